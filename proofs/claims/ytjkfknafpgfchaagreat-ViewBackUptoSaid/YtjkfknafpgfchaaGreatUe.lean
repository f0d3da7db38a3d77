/- code.Reader: a number, a text, a byte, four bytes from the front of bytes. -/
import Derived.Test.YtjkfknafpgfchaaGreatQt
import Derived.Test.YtjkfknafpgfchaaGreatUa
import Derived.Test.YtjkfknafpgfchaaGreatR58
import Derived.KernelRfl
set_option maxRecDepth 100000
set_option linter.unusedVariables false
set_option linter.unusedSimpArgs false
namespace Go.Proofs.YtjkfknafpgfchaaGreat
section
def Qg:List (Nat × QF):=[(38,IR),(39,Nf),(137,Ng),(139,yx),(140,Nh),(51,Ef),(134,au9),(135,yz),(215,av0),(216,Aj),(217,Ak),(218,VC),(219,Al),(141,Nr),(142,Ns),(286,VD),(287,Ap),(288,VE),(289,Aq),(290,VF),(291,Au),(370,Av),(371,VG),(372,Aw),(373,VH),(374,Ay),(402,VI),(403,Az),(404,NA),(405,NB),(425,av1),(426,IX),(427,av2),(428,IY),(40,Vv),(41,Ah),(42,Vx),(43,IU),(44,Vy),(45,IV),(46,Vz),(47,IW),(48,VA),(49,Ai),(50,VB),(136,Am),(138,Ao),(9,yw)]
def TRd:FuncId -> Option QF:=jk Qg
def aj (f:FuncId):Bool:=[9,139,135,426,428].any fun n=>Nat.beq n f
theorem O7:TRd 38 = some (IR):=by kernel_rfl
theorem PG:aj 38 = false:=by kernel_rfl
theorem ay0:TRd 39 = some (Nf):=by kernel_rfl
theorem bg0:aj 39 = false:=by kernel_rfl
theorem ay1:TRd 137 = some (Ng):=by kernel_rfl
theorem bg1:aj 137 = false:=by kernel_rfl
theorem ay2:TRd 139 = some (yx):=by kernel_rfl
theorem bg2:aj 139 = true:=by kernel_rfl
theorem ay3:TRd 140 = some (Nh):=by kernel_rfl
theorem bg3:aj 140 = false:=by kernel_rfl
theorem O8:TRd 51 = some (Ef):=by kernel_rfl
theorem PH:aj 51 = false:=by kernel_rfl
theorem bc7:TRd 134 = some (takeQ (.int .u64 0)):=by kernel_rfl
theorem bj9:aj 134 = false:=by kernel_rfl
theorem Pg:TRd 135 = some (yz):=by kernel_rfl
theorem PO:aj 135 = true:=by kernel_rfl
theorem bc8:TRd 215 = some (takeQ (.str ⟨#[]⟩)):=by kernel_rfl
theorem bk0:aj 215 = false:=by kernel_rfl
theorem I8:TRd 216 = some (Aj):=by kernel_rfl
theorem Jb:aj 216 = false:=by kernel_rfl
theorem CB:TRd 217 = some (Ak):=by kernel_rfl
theorem CF:aj 217 = false:=by kernel_rfl
theorem bc9:TRd 218 = some (VC):=by kernel_rfl
theorem bk3:aj 218 = false:=by kernel_rfl
theorem Ph:TRd 219 = some (Al):=by kernel_rfl
theorem PP:aj 219 = false:=by kernel_rfl
theorem bd0:TRd 141 = some (Nr):=by kernel_rfl
theorem bk4:aj 141 = false:=by kernel_rfl
theorem bd1:TRd 142 = some (Ns):=by kernel_rfl
theorem bk5:aj 142 = false:=by kernel_rfl
theorem Pj:TRd 286 = some (VD):=by kernel_rfl
theorem PR:aj 286 = false:=by kernel_rfl
theorem Pk:TRd 287 = some (Ap):=by kernel_rfl
theorem PS:aj 287 = false:=by kernel_rfl
theorem Pm:TRd 288 = some (VE):=by kernel_rfl
theorem PT:aj 288 = false:=by kernel_rfl
theorem Pn:TRd 289 = some (Aq):=by kernel_rfl
theorem PU:aj 289 = false:=by kernel_rfl
theorem Po:TRd 290 = some (VF):=by kernel_rfl
theorem PW:aj 290 = false:=by kernel_rfl
theorem Pp:TRd 291 = some (Au):=by kernel_rfl
theorem PX:aj 291 = false:=by kernel_rfl
theorem Pq:TRd 370 = some (Av):=by kernel_rfl
theorem PY:aj 370 = false:=by kernel_rfl
theorem Ps:TRd 371 = some (VG):=by kernel_rfl
theorem PZ:aj 371 = false:=by kernel_rfl
theorem Pt:TRd 372 = some (Aw):=by kernel_rfl
theorem P5:aj 372 = false:=by kernel_rfl
theorem Pv:TRd 373 = some (VH):=by kernel_rfl
theorem P6:aj 373 = false:=by kernel_rfl
theorem Pw:TRd 374 = some (Ay):=by kernel_rfl
theorem P7:aj 374 = false:=by kernel_rfl
theorem Px:TRd 402 = some (VI):=by kernel_rfl
theorem P8:aj 402 = false:=by kernel_rfl
theorem Py:TRd 403 = some (Az):=by kernel_rfl
theorem P9:aj 403 = false:=by kernel_rfl
theorem bd7:TRd 404 = some (NA):=by kernel_rfl
theorem bl0:aj 404 = false:=by kernel_rfl
theorem bd8:TRd 405 = some (NB):=by kernel_rfl
theorem bl1:aj 405 = false:=by kernel_rfl
theorem bd9:TRd 425 = some (takeQ (.int .u32 0)):=by kernel_rfl
theorem bl2:aj 425 = false:=by kernel_rfl
theorem Pz:TRd 426 = some (IX):=by kernel_rfl
theorem Qa:aj 426 = true:=by kernel_rfl
theorem be0:TRd 427 = some (takeQ (.int .u8 0)):=by kernel_rfl
theorem bl3:aj 427 = false:=by kernel_rfl
theorem PD:TRd 428 = some (IY):=by kernel_rfl
theorem Qb:aj 428 = true:=by kernel_rfl
theorem ay5:TRd 40 = some (Vv):=by kernel_rfl
theorem bg5:aj 40 = false:=by kernel_rfl
theorem O9:TRd 41 = some (Ah):=by kernel_rfl
theorem PI:aj 41 = false:=by kernel_rfl
theorem ay6:TRd 42 = some (Vx):=by kernel_rfl
theorem bg6:aj 42 = false:=by kernel_rfl
theorem Pb:TRd 43 = some (IU):=by kernel_rfl
theorem PK:aj 43 = false:=by kernel_rfl
theorem ay7:TRd 44 = some (Vy):=by kernel_rfl
theorem bg7:aj 44 = false:=by kernel_rfl
theorem Pd:TRd 45 = some (IV):=by kernel_rfl
theorem PL:aj 45 = false:=by kernel_rfl
theorem ay8:TRd 46 = some (Vz):=by kernel_rfl
theorem bg8:aj 46 = false:=by kernel_rfl
theorem Pe:TRd 47 = some (IW):=by kernel_rfl
theorem PM:aj 47 = false:=by kernel_rfl
theorem ay9:TRd 48 = some (VA):=by kernel_rfl
theorem bg9:aj 48 = false:=by kernel_rfl
theorem Pf:TRd 49 = some (Ai):=by kernel_rfl
theorem PN:aj 49 = false:=by kernel_rfl
theorem az0:TRd 50 = some (VB):=by kernel_rfl
theorem bh0:aj 50 = false:=by kernel_rfl
theorem CE:TRd 136 = some (Am):=by kernel_rfl
theorem CG:aj 136 = false:=by kernel_rfl
theorem Pi:TRd 138 = some (Ao):=by kernel_rfl
theorem PQ:aj 138 = false:=by kernel_rfl
theorem av6:TRd 9 = some (yw):=by kernel_rfl
theorem be2:aj 9 = true:=by kernel_rfl
theorem db0:TRd 31 = none:=by kernel_rfl
theorem bd2:TRd 130 = none:=by kernel_rfl
theorem bc6:TRd 125 = none:=by kernel_rfl
def u8C (n:Int):List D:=[.int .u8 n]
def BRow (bs:List Blk) (p:Nat) (v:V) (l:List Int):Prop :=
 (l = [] /\ ∃ nl,v = .d (.slice nl [])) \/ (l ≠ [] /\ ∃ B o cs,v = .row B o l.length none 1 /\ B < p /\ ah bs B = some cs /\ sub cs o l.length = some (l.map (iv .u8)))
theorem BRow.nu {bs:List Blk} {p:Nat} {v:V} {l:List Int} (h:BRow bs p v l):Go.Proofs.YtjkfknafpgfchaaGreat.nu v = some v /\ okV v = true /\ v.cells = some [v]:=by
 rcases h with ⟨_,nl,rfl⟩ | ⟨_,B,o,cs,rfl,_⟩ <;> exact ⟨rfl,rfl,rfl⟩
theorem BRow.len {bs:List Blk} {p:Nat} {v:V} {l:List Int} (h:BRow bs p v l) (hp:Hp):qL false v hp = some (.d (i64 l.length),hp):=by
 rcases h with ⟨rfl,nl,rfl⟩ | ⟨_,B,o,cs,rfl,_⟩ <;> rfl
theorem BRow.on {bs bs':List Blk} {p:Nat} {v:V} {l:List Int} (h:BRow bs p v l) (ho:∀ x,x ≠ p -> x < bs.length -> bs'[x]? = bs[x]?):BRow bs' p v l:=by
 rcases h with h | ⟨h1,B,o,cs,h2,h3,h4,h5⟩
 · exact .inl h
 · exact .inr ⟨h1,B,o,cs,h2,h3,by rw [← h4]; unfold ah; rw [ho B (Nat.ne_of_lt h3) (aP h4)],h5⟩
theorem BRow.drop {bs:List Blk} {p:Nat} {v:V} {l:List Int} (h:BRow bs p v l) {n:Nat} (hn:0 < n) (hnl:n <= l.length):∃ v',BRow bs p v' (l.drop n) /\ ∀ (hp:Hp) (ev:X -> V) (x:X),ev x = .d (.int .i64 n) -> bP hp ev .sl 1 v (some x) none none = some v':=by
 rcases h with ⟨rfl,_⟩ | ⟨h1,B,o,cs,rfl,h3,h4,h5⟩
 · simp at hnl; omega
 · by_cases hlt:n < l.length
   · refine ⟨.row B (o + n) (l.length - n) none 1,.inr ⟨?_,B,o + n,cs,by rw [List.length_drop],h3,h4,?_⟩,fun hp ev x hx=>?_⟩
     · intro h0;have:=congrArg List.length h0;simp at this; omega
     · simp only [sub] at h5 ⊢;split at h5
       · rename_i hle;simp only [Option.some.injEq] at h5;rw [List.length_drop,if_pos (by omega)]
         congr 1
         rw [List.map_drop,← h5,List.drop_take,List.drop_drop]
       · cases h5
     · have hn0:¬ n = 0:=by omega
       simp [bP,bQ,hx,hnl,hlt,hn0]
   · have he:n = l.length:=by omega
     refine ⟨.d (.slice false []),.inl ⟨List.drop_eq_nil_of_le (by omega),false,rfl⟩,fun hp ev x hx=>?_⟩;have hn0:¬ n = 0:=by omega
     simp [bP,bQ,hx,hnl,hlt,hn0]
def RdS (p:Nat) (bs:List Blk) (st:Option (List Int)):Prop:=∃ v l,ah bs p = some [v,bl st.isNone] /\ BRow bs p v l /\ byteL l /\ l.length <= big /\ ∀ b,st = some b -> b = l
def Old (p:Nat) (bs bs':List Blk):Prop:=bs.length <= bs'.length /\ ∀ y,y ≠ p -> y < bs.length -> bs'[y]? = bs[y]?
theorem Old.refl (p:Nat) (bs:List Blk):Old p bs bs:=⟨Nat.le_refl _,fun _ _ _=>rfl⟩
theorem Old.trans {p:Nat} {a b c:List Blk} (h:Old p a b) (k:Old p b c):Old p a c:=⟨Nat.le_trans h.1 k.1,fun y h1 h2=>(k.2 y h1 (Nat.lt_of_lt_of_le h2 h.1)).trans (h.2 y h1 h2)⟩
theorem Old.lay {p:Nat} (bs ys:List Blk):Old p bs (bs ++ ys):=⟨by simp,fun y _ h=>List.getElem?_append_left h⟩
theorem Old.set {p:Nat} (bs:List Blk) (b:Blk):Old p bs (bs.set p b):=⟨by simp,fun y h _=>by rw [List.getElem?_set_ne (Ne.symm h)]⟩
theorem RdS.lt {p:Nat} {bs:List Blk} {st:Option (List Int)} (h:RdS p bs st):p < bs.length:=by
 obtain ⟨v,l,h1,_⟩:=h; exact aP h1
theorem RdS.lay {p:Nat} {bs:List Blk} {st:Option (List Int)} (h:RdS p bs st) (ys:List Blk):RdS p (bs ++ ys) st:=by
 obtain ⟨v,l,h1,h2,h3⟩:=h;exact ⟨v,l,au h1,h2.on fun x _ hx=>List.getElem?_append_left hx,h3⟩
def Reads {α:Type} (E:Calls') (f:FuncId) (args:List V) (p:Nat) (bs:List Blk) (st:Option (List Int)) (P:Pr α) (enc:α -> D) (zero:α):Prop :=
 ∃ x st' bs',∃ F:Nat -> Nat,(∀ lo,Sm E TRd aj f args ⟨bs,lo⟩ = some (.d (enc x),⟨bs',F lo⟩)) /\ Step P st x st' /\ (st' = none -> x = zero) /\ RdS p bs' st' /\ Old p bs bs' /\ (∀ lo:Nat,F lo <= lo) /\ (st = none -> bs' = bs /\ ∀ lo,F lo = lo) /\ (st ≠ none -> ∀ lo,F lo <= p)
def Finds {α:Type} (E:Calls') (f:FuncId) (caps:List V) (p:Nat) (bs:List Blk) (P:Pr α) (enc:α -> D):Prop :=
 ∀ v l,BRow bs p v l -> byteL l -> l.length <= big -> (∃ y n,P l = some (y,l.drop n) /\ 0 < n /\ n <= l.length /\ ∀ lo,Sm E TRd aj f (v :: caps) ⟨bs,lo⟩ = some (.tup [.d (enc y),.d (i64 n)],⟨bs,lo⟩)) ∨
  (P l = none /\ ∃ d,∀ lo,Sm E TRd aj f (v :: caps) ⟨bs,lo⟩ = some (.tup [.d d,.d (i64 (-1))],⟨bs,lo⟩))
section
variable {E:Calls'}
theorem kF {α:Type} {id:FuncId} {P:Pr α} {enc:α -> D} {zero:α} (ht:TRd id = some (takeQ (enc zero))) (hv:aj id = false) {p:Nat} {bs:List Blk} {st:Option (List Int)} {f:FuncId} {caps:List V} (hR:RdS p bs st) (hf:Finds E f caps p bs P enc) :
 Reads E id [.ptr p 0,.fn f caps] p bs st P enc zero:=by
 have hp:=hR.lt;obtain ⟨v,l,h1,h2,h3,h4,h5⟩:=hR;obtain ⟨n1,n2,n3⟩:=h2.nu;have hR0:RdS p bs st:=⟨v,l,h1,h2,h3,h4,h5⟩;cases st with
 | none =>
  simp only [Option.isNone_none] at h1;refine ⟨zero,none,bs,fun lo=>lo,fun lo=>?_,rfl,fun _=>rfl,hR0,Old.refl _ _,fun lo=>Nat.le_refl _,fun _=>⟨rfl,fun _=>rfl⟩,fun h=>absurd rfl h⟩;rw [aB ht hv];simp [takeQ,af,h1,aG,V.under]
 | some b =>
  obtain rfl:=h5 b rfl;simp only [Option.isNone_some] at h1;rcases hf v b h2 h3 h4 with ⟨y,n,k1,k2,k3,k4⟩ | ⟨k1,d,k4⟩
  · obtain ⟨v',g1,g2⟩:=h2.drop k2 k3;obtain ⟨m1,m2,m3⟩:=g1.nu;have hneg:¬ ((n:Int) < 0):=by omega
    refine ⟨y,some (b.drop n),bs.set p (.cells [v',bl false]),fun lo=>min lo p,fun lo=>?_,?_,(fun h=>by cases h),⟨v',b.drop n,?_,g1.on fun x hx hl=>by rw [List.getElem?_set_ne (Ne.symm hx)],fun c hc=>h3 c (List.mem_of_mem_drop hc),by rw [List.length_drop]; omega,fun b' hb'=>by cases hb'; rfl⟩,Old.set _ _,fun lo=>Nat.min_le_left _ _,fun h=>(by cases h),fun _ lo=>Nat.min_le_right _ _⟩
    · rw [aB ht hv];simp [takeQ,af,h1,k4,n1,n2,m3,hneg,aG,V.under,g2,storeAt,put,Hp.set];rw [if_neg (by omega),Nat.min_eq_right (Nat.le_of_lt hp)]
    · simp [Step,k1]
    · rw [ai,if_pos rfl,if_pos hp]; rfl
  · refine ⟨zero,none,bs.set p (.cells [v,bl true]) ++ [.cells [.d (enc zero)]],fun lo=>min lo p,fun lo=>?_,?_,fun _=>rfl,⟨v,b,?_,h2.on fun x hx hl=>?_,h3,h4,fun b' hb'=>by cases hb'⟩,⟨by simp,fun y hy hl=>?_⟩,fun lo=>Nat.min_le_left _ _,fun h=>(by cases h),fun _ lo=>Nat.min_le_right _ _⟩
    · rw [aB ht hv];have hset:ah (bs.set p (.cells [v,bl true]) ++ [.cells [.d (enc zero)]]) bs.length = some [.d (enc zero)]:=by
       have:=dF (bs:=bs.set p (.cells [v,bl true])) (ys:=[.cells [.d (enc zero)]]);rw [List.length_set] at this;rw [this]; rfl
      simp [takeQ,af,h1,k4,n1,n2,aG,V.under,storeAt,put,Hp.set,hset];rw [if_neg (by omega),Nat.min_eq_right (Nat.le_of_lt hp)]
    · simp [Step,k1]
    · refine au ?_;rw [ai,if_pos rfl,if_pos hp]; rfl
    · rw [List.getElem?_append_left (by simpa using hl),List.getElem?_set_ne (Ne.symm hx)]
    · rw [List.getElem?_append_left (by simpa using hl),List.getElem?_set_ne (Ne.symm hy)]
theorem Reads.through {α:Type} {f g:FuncId} {av args:List V} {p:Nat} {bs:List Blk} (ys:List Blk) {st:Option (List Int)} {P:Pr α} {enc:α -> D} {zero:α} (h:Reads E f av p (bs ++ ys) st P enc zero)
 (hg:∀ x bs' lo',Sm E TRd aj f av ⟨bs ++ ys,bs.length⟩ = some (.d (enc x),⟨bs',lo'⟩) -> ∀ lo,Sm E TRd aj g args ⟨bs,lo⟩ = iR ⟨bs,lo⟩ (some (.d (enc x),⟨bs',lo'⟩))) (hR:RdS p bs st):Reads E g args p bs st P enc zero:=by
 have hp:=hR.lt;obtain ⟨x,st',b2,F,k1,k2,k3,k4,k5,k6,k7,k8⟩:=h;have hh:=hg x b2 _ (k1 bs.length);cases st with
 | none =>
  obtain ⟨e7,q7⟩:=k7 rfl;subst e7;have hn:st' = none:=k2;subst hn;refine ⟨x,none,bs,fun lo=>lo,fun lo=>?_,k2,k3,hR,Old.refl _ _,fun lo=>Nat.le_refl _,fun _=>⟨rfl,fun _=>rfl⟩,fun h=>absurd rfl h⟩;rw [hh lo,nU,if_pos ⟨by show bs.length <= F bs.length; rw [q7]; exact Nat.le_refl _,rfl⟩]
 | some b =>
  have k8:=k8 (by simp) bs.length;refine ⟨x,st',b2,fun lo=>min lo (F bs.length),fun lo=>?_,k2,k3,k4,(Old.lay bs ys).trans k5,fun lo=>Nat.min_le_left _ _,fun h=>(by cases h),fun _ lo=>Nat.le_trans (Nat.min_le_right _ _) k8⟩;rw [hh lo,nU,if_neg (fun hh=>by have:=hh.1; simp only at this; omega)]
end
end
section
theorem TU {a y:Int} {i:Nat} (h0:0 <= a) (h1:a < 128 ^ i) (h2:0 <= y) (h3:a + y * 128 ^ i < 2 ^ 64):orI .u64 a (y * 128 ^ i) = a + y * 128 ^ i:=by
 obtain ⟨A,rfl⟩:=Int.eq_ofNat_of_zero_le h0;obtain ⟨Y,rfl⟩:=Int.eq_ofNat_of_zero_le h2;have e1:((Y:Int) * 128 ^ i) = ((Y * 128 ^ i:Nat):Int):=by push_cast; rfl
 rw [e1] at h3 ⊢;have h1':A < 2 ^ (7 * i):=by
  have:(128:Nat) ^ i = 2 ^ (7 * i):=by rw [Nat.pow_mul]
  rw [← this]; exact_mod_cast h1
 have h3':A + Y * 128 ^ i < 2 ^ 64:=by exact_mod_cast h3
 have e2:A ||| Y * 128 ^ i = A + Y * 128 ^ i:=by
  have h:=Nat.two_pow_add_eq_or_of_lt h1' Y;have h128:(128:Nat) ^ i = 2 ^ (7 * i):=by rw [Nat.pow_mul]
  rw [h128,Nat.mul_comm Y,Nat.or_comm,← h,Nat.add_comm]
 have hw:IntKind.u64.bits = 64:=rfl;simp only [orI,hw,BitVec.ofInt_natCast,BitVec.toNat_or,BitVec.toNat_ofNat];rw [Nat.mod_eq_of_lt (by omega),Nat.mod_eq_of_lt (by omega),e2,wrap_u64];omega
def QJ (k:IntKind) (a b:Int):Int:=k.wrap ((BitVec.ofInt k.bits a &&& BitVec.ofInt k.bits b).toNat)
theorem J8 {k:IntKind} {a b:Int}:bJ .and (.d (.int k a)) (.d (.int k b)) = some (.int k (QJ k a b)):=by simp [bJ,dU,QJ]
theorem J4:((List.range 256).all fun a=>decide (QJ .u8 (a:Int) 127 = (a:Int) % 128)) = true:=by decide +kernel
theorem J3 {c:Int} (h:0 <= c /\ c < 256):bJ .and (.d (.int .u8 c)) (.d (.int .u8 127)) = some (.int .u8 (c % 128)):=by
 have k:=List.all_eq_true.1 J4 c.toNat (List.mem_range.2 (by omega));simp only [decide_eq_true_eq] at k;have e:((c.toNat:Nat):Int) = c:=by omega
 rw [e] at k;rw [J8,k]
theorem BG {k:IntKind} {a b:Int}:bJ .mul (.d (.int k a)) (.d (.int k b)) = some (.int k (k.wrap (a * b))):=by simp [bJ,dU]
section
variable {E:Calls'} (h404:∀ x h,E 130 [.d (u64 x)] h = some (.d (i64 (dP x)),h))
include h404
theorem AP {l:List Int} (hb:byteL l) (hl:l.length <= big) (nl:Bool):∀ (m i:Nat) (acc:Int),i + m = l.length -> (m = 0 \/ i <= 9) -> 0 <= acc -> acc < 128 ^ i →
 (∃ x n,iy i acc (l.drop i) = some (x,l.drop n) /\ 0 < n /\ n <= l.length /\ Cd E TRd aj (.loop [4,7,8,9] eG) [(4,.d (u64 acc)),(7,.d (Sl.d u8C ⟨nl,l⟩)),(8,.d (i64 l.length)),(9,.d (i64 i))] ⟨[],0⟩ = some (.ret,[(2,.d (u64 x)),(3,.d (i64 n))],⟨[],0⟩)) ∨
 (iy i acc (l.drop i) = none /\ (Cd E TRd aj (.loop [4,7,8,9] eG) [(4,.d (u64 acc)),(7,.d (Sl.d u8C ⟨nl,l⟩)),(8,.d (i64 l.length)),(9,.d (i64 i))] ⟨[],0⟩ = some (.ret,[(2,.d (u64 0)),(3,.d (i64 (-1)))],⟨[],0⟩) ∨
   Cd E TRd aj (.loop [4,7,8,9] eG) [(4,.d (u64 acc)),(7,.d (Sl.d u8C ⟨nl,l⟩)),(8,.d (i64 l.length)),(9,.d (i64 i))] ⟨[],0⟩ = some (.exit 0,[],⟨[],0⟩))):=by
 intro m;have key:=ax (E:=E) (T:=TRd) (val:=aj) [4,7,8,9] eG;generalize Cd E TRd aj (.loop [4,7,8,9] eG) = W at key ⊢;have hlb:l.length < 2 ^ 62:=Nat.lt_of_le_of_lt hl (by decide)
 induction m with
 | zero =>
  intro i acc hi _ h0 h1;have hd:l.drop i = []:=List.drop_eq_nil_of_le (by omega);refine .inr ⟨by rw [hd]; rfl,.inr ?_⟩;rw [key];simp [eG,show ¬ ((i:Int) < l.length) from by omega]
 | succ m ih =>
  intro i acc hi h9 h0 h1;have h9':i <= 9:=by omega
  have hlt:i < l.length:=by omega
  have hx:=fun h=>bi (z:=1) h (List.getElem?_eq_getElem hlt) (cells:=u8C) (s:=⟨nl,l⟩) rfl;have hc:=hb _ (List.getElem_mem hlt);rw [List.drop_eq_getElem_cons hlt];generalize l[i] = c at *;have hw:=aK hlt hlb;have hand:=J3 hc;have hcv:IntKind.wrap .u64 (c % 128) = c % 128:=by rw [wrap_u64]; omega
  have hmul:bJ .mul (.d (.int .i64 7)) (.d (.int .i64 (i:Int))) = some (.int .i64 (7 * (i:Int))):=by rw [BG,wrap64] <;> omega
  have hp:(0:Int) < 128 ^ i:=Int.pow_pos (by omega);have hli:((i:Int) < (l.length:Int)):=by omega
  have hsub:∀ x:Int,sub (u8C x) 0 1 = some (u8C x):=fun _=>rfl;by_cases e9:i = 9 /\ c > 1
  · obtain ⟨e0,e1⟩:=e9;refine .inr ⟨by simp only [iy]; rw [if_pos ⟨e0,e1⟩],.inl ?_⟩;have hi9:(i:Int) = 9:=by omega
    rw [key];simp [eG,hx,hli,hw,e1,show ((i:Int) == 9) = true from by simp [hi9],u8C,aG]
  · have hyb:acc + c % 128 * 128 ^ i < 2 ^ 64 /\ c % 128 * 128 ^ i < 2 ^ 64 /\ 0 <= c % 128 * 128 ^ i:=by
     have hnn:0 <= c % 128 * 128 ^ i:=Int.mul_nonneg (by omega) (Int.le_of_lt hp);by_cases hi9:i = 9
     · subst hi9;have h128:(128:Int) ^ 9 = 2 ^ 63:=by decide
       rw [h128] at h1 ⊢;have:c <= 1:=by
        by_cases hc1:c <= 1
        · exact hc1
        · exact absurd ⟨rfl,by omega⟩ e9
       omega
     · have h8:(128:Int) ^ i <= 128 ^ 8:=by
        have:i <= 8:=by omega
        exact_mod_cast Nat.pow_le_pow_right (by omega:0 < 128) this
       have h128:(128:Int) ^ 8 = 2 ^ 56:=by decide
       have h2:c % 128 * 128 ^ i <= 127 * 128 ^ i:=Int.mul_le_mul_of_nonneg_right (by omega) (Int.le_of_lt hp);rw [h128] at h8;omega
    have hshl:bJ .shl (.d (.int .u64 (c % 128))) (.d (.int .i64 (7 * (i:Int)))) = some (.int .u64 (c % 128 * 128 ^ i)):=by
     rw [nT (by omega)];have e1:(7 * (i:Int)).toNat = 7 * i:=by omega
     have e2:min (7 * i) IntKind.u64.bits = 7 * i:=Nat.min_eq_left (by show 7 * i <= 64; omega);have e3:(2:Int) ^ (7 * i) = 128 ^ i:=by rw [Int.pow_mul]; rfl
     rw [e1,e2,e3,wrap_u64]
     congr 2; omega
    have hor:bJ .or (.d (.int .u64 acc)) (.d (.int .u64 (c % 128 * 128 ^ i))) = some (.int .u64 (acc + c % 128 * 128 ^ i)):=by rw [zx,TU h0 h1 (by omega) hyb.1]
    have n1:∀ x h,Sm E TRd aj 130 [.d (u64 x)] h = some (.d (i64 (dP x)),h):=fun x h=>(aJ bd2).trans (h404 x h);have hpk:(if (i:Int) = 9 then decide (c > 1) else false) = false:=by
     by_cases hi9:i = 9
     · have:¬ c > 1:=fun hc1=>e9 ⟨hi9,hc1⟩;simp [hi9,this]
     · simp [show ¬ (i:Int) = 9 from by omega]
    have hw1:IntKind.wrap .i64 ((i:Int) + 1) = ((i + 1:Nat):Int):=hw;simp only [iy];rw [if_neg e9];by_cases e2:c < 128
    · rw [if_pos e2];by_cases e3:dP (acc + c % 128 * 128 ^ i) = i + 1
      · rw [if_pos e3];refine .inl ⟨acc + c % 128 * 128 ^ i,i + 1,rfl,by omega,by omega,?_⟩;rw [key];by_cases hi9:(i:Int) = 9
        · have hc1:¬ c > 1:=fun hc1=>e9 ⟨by omega,hc1⟩;simp [eG,hx,hli,hw1,hand,hcv,hmul,hshl,hor,n1,e2,e3,show ((i:Int) == 9) = true from by simp [hi9],hc1,u8C,aG];try omega
        · simp [eG,hx,hli,hw1,hand,hcv,hmul,hshl,hor,n1,e2,e3,hi9,u8C,aG]
      · rw [if_neg e3];refine .inr ⟨rfl,.inl ?_⟩;have e3':¬ dP (acc + c % 128 * 128 ^ i) = ((i + 1:Nat):Int):=by push_cast; exact e3
        rw [key];by_cases hi9:(i:Int) = 9
        · have hc1:¬ c > 1:=fun hc1=>e9 ⟨by omega,hc1⟩;simp [eG,hx,hli,hw1,hand,hcv,hmul,hshl,hor,n1,e2,e3,e3',show ((i:Int) == 9) = true from by simp [hi9],hc1,u8C,aG]
        · simp [eG,hx,hli,hw1,hand,hcv,hmul,hshl,hor,n1,e2,e3,e3',hi9,u8C,aG]
    · rw [if_neg e2];have hi8:¬ (i:Int) = 9:=fun hi9=>e9 ⟨by omega,by omega⟩;have hlt2:acc + c % 128 * 128 ^ i < 128 ^ (i + 1):=by
       have h2:c % 128 * 128 ^ i <= 127 * 128 ^ i:=Int.mul_le_mul_of_nonneg_right (by omega) (Int.le_of_lt hp);rw [Int.pow_succ]; omega
      have hr:W [(4,.d (u64 acc)),(7,.d (Sl.d u8C ⟨nl,l⟩)),(8,.d (i64 l.length)),(9,.d (i64 i))] ⟨[],0⟩ = W [(4,.d (u64 (acc + c % 128 * 128 ^ i))),(7,.d (Sl.d u8C ⟨nl,l⟩)),(8,.d (i64 l.length)),(9,.d (i64 ((i + 1:Nat):Int)))] ⟨[],0⟩:=by
       rw [key];simp [eG,hx,hli,hw1,hand,hcv,hmul,hshl,hor,e2,hi8,u8C,aG]
      rw [hr];exact ih (i + 1) _ (by omega) (by omega) (by omega) hlt2
theorem bv1 (l:List Int) (hb:byteL l) (hl:l.length <= big) (nl:Bool) :
 (∃ x n,pUint l = some (x,l.drop n) /\ 0 < n /\ n <= l.length /\ Bd E TRd aj yz [.d (Sl.d u8C ⟨nl,l⟩)] ⟨[],0⟩ = some (.tup [.d (u64 x),.d (i64 n)],⟨[],0⟩)) ∨
 (pUint l = none /\ Bd E TRd aj yz [.d (Sl.d u8C ⟨nl,l⟩)] ⟨[],0⟩ = some (.tup [.d (u64 0),.d (i64 (-1))],⟨[],0⟩)):=by
 rcases AP h404 hb hl nl l.length 0 0 (by omega) (by omega) (Int.le_refl 0) (by simp) with ⟨x,n,k1,k2,k3,k4⟩ | ⟨k1,k4 | k4⟩
 · refine .inl ⟨x,n,by simpa [pUint] using k1,k2,k3,?_⟩;simp only [Int.natCast_zero] at k4;simp [af,yz];rw [aH];simp [k4]
 · refine .inr ⟨by simpa [pUint] using k1,?_⟩;simp only [Int.natCast_zero] at k4;simp [af,yz];rw [aH];simp [k4]
 · refine .inr ⟨by simpa [pUint] using k1,?_⟩;simp only [Int.natCast_zero] at k4;simp [af,yz];rw [aH];simp [k4]
end
end
section
theorem ww (l:List Int):(l.map u8C).flatten = l.map fun n=>D.int .u8 n:=by
 induction l with
 | nil=>rfl
 | cons x l ih=>simp only [List.map_cons,List.flatten_cons,ih]; rfl
theorem BRow.frz {bs:List Blk} {p:Nat} {v:V} {l:List Int} (h:BRow bs p v l):∃ nl,∀ lo,Go.Proofs.YtjkfknafpgfchaaGreat.frz ⟨bs,lo⟩ v = some (.d (Sl.d u8C ⟨nl,l⟩)):=by
 rcases h with ⟨rfl,nl,rfl⟩ | ⟨h1,B,o,cs,rfl,h3,h4,h5⟩
 · exact ⟨nl,fun lo=>by simp [Go.Proofs.YtjkfknafpgfchaaGreat.frz,dD,Sl.d]⟩
 · refine ⟨false,fun lo=>?_⟩;have hm:(l.map (iv .u8)).mapM (dataV ⟨bs,lo⟩ 7) = some (l.map fun n=>D.int .u8 n):=by
    have:=fD ⟨bs,lo⟩ 7 (l.map fun n=>D.int .u8 n);rw [List.map_map] at this;exact this
   have hd:dataV ⟨bs,lo⟩ 8 (.row B o l.length none 1) = some (.slice false (l.map u8C)):=by
    simp only [dataV,get_eq,h4,Nat.mul_one,h5,hm];rw [← ww];have:=iH (z:=1) (l.map u8C) (fun e he=>by obtain ⟨n,_,rfl⟩:=List.mem_map.1 he; rfl);rw [List.length_map] at this;rw [this]
   simp [Go.Proofs.YtjkfknafpgfchaaGreat.frz,dD,hd,Sl.d]
section
variable {E:Calls'}
theorem mD {f:FuncId} {q:QF} (ht:TRd f = some q) (hv:aj f = true) {v:V} {h h':Hp} {d a b:D} (hf:Go.Proofs.YtjkfknafpgfchaaGreat.frz h v = some (.d d)) (hB:Bd E TRd aj q [.d d] ⟨[],0⟩ = some (.tup [.d a,.d b],h')) (ho:lv h' (.tup [.d a,.d b]) = true):Sm E TRd aj f [v] h = some (.tup [.d a,.d b],h):=by
 rw [bf ht hv];have hz:Go.Proofs.YtjkfknafpgfchaaGreat.frz h' (.tup [.d a,.d b]) = some (.tup [.d a,.d b]):=by simp [Go.Proofs.YtjkfknafpgfchaaGreat.frz,dD]
 simp [hf,hB,hz,ho]
section
variable (h404:∀ x h,E 130 [.d (u64 x)] h = some (.d (i64 (dP x)),h))
include h404
theorem BO (p:Nat) (bs:List Blk):Finds E 135 [] p bs pUint u64:=by
 intro v l hB hb hl;obtain ⟨nl,hf⟩:=hB.frz;rcases bv1 h404 l hb hl nl with ⟨x,n,k1,k2,k3,k4⟩ | ⟨k1,k4⟩
 · exact .inl ⟨x,n,k1,k2,k3,fun lo=>mD Pg PO (hf lo) k4 rfl⟩
 · exact .inr ⟨k1,.int .u64 0,fun lo=>mD Pg PO (hf lo) k4 rfl⟩
theorem rD {p:Nat} {bs:List Blk} {st:Option (List Int)} (hR:RdS p bs st):Reads E 39 [.ptr p 0] p bs st pUint u64 0:=by
 have h:=kF (E:=E) (enc:=u64) (zero:=0) bc7 bj9 hR (BO h404 p bs);have h':Reads E 134 [.ptr p 0,.fn 135 []] p (bs ++ []) st pUint u64 0:=by rw [List.append_nil]; exact h
 refine h'.through [] (fun x bs' lo' k lo=>?_) hR;rw [List.append_nil] at k;rw [aB ay0 bg0];simp [af,Nf,k]
end
theorem Kv (p:Nat) (bs:List Blk):Finds E 428 [] p bs pByte (fun n=>.int .u8 n):=by
 intro v l hB hb hl;obtain ⟨nl,hf⟩:=hB.frz;cases l with
 | nil =>
  refine .inr ⟨rfl,.int .u8 0,fun lo=>mD (h':=⟨[],0⟩) PD Qb (hf lo) ?_ rfl⟩;simp [af,IY,Sl.d]
 | cons c l =>
  refine .inl ⟨c,1,rfl,by omega,by simp,fun lo=>mD (h':=⟨[],0⟩) PD Qb (hf lo) ?_ rfl⟩;have hx:=fun h=>bi (z:=1) (k:=0) (s:=⟨nl,c :: l⟩) (cells:=u8C) (e:=c) h rfl rfl;simp only [Int.natCast_zero] at hx;have hne:¬ ((l.length:Int) + 1 = 0):=by omega
  simp [af,IY,hx,hne,u8C]
theorem Qt {p:Nat} {bs:List Blk} {st:Option (List Int)} (hR:RdS p bs st):Reads E 405 [.ptr p 0] p bs st pByte (fun n=>.int .u8 n) 0:=by
 have h:=kF (E:=E) (enc:=fun n=>D.int .u8 n) (zero:=0) be0 bl3 hR (Kv p bs);have h':Reads E 427 [.ptr p 0,.fn 428 []] p (bs ++ []) st pByte (fun n=>.int .u8 n) 0:=by rw [List.append_nil]; exact h
 refine h'.through [] (fun x bs' lo' k lo=>?_) hR;rw [List.append_nil] at k;rw [aB bd8 bl1];simp [af,NB,k]
theorem zX {a y:Int} {i:Nat} (h0:0 <= a) (h1:a < 2 ^ i) (h2:0 <= y) (h3:a + y * 2 ^ i < 2 ^ 32):orI .u32 (y * 2 ^ i) a = a + y * 2 ^ i:=by
 obtain ⟨A,rfl⟩:=Int.eq_ofNat_of_zero_le h0;obtain ⟨Y,rfl⟩:=Int.eq_ofNat_of_zero_le h2;have e1:((Y:Int) * 2 ^ i) = ((Y * 2 ^ i:Nat):Int):=by push_cast; rfl
 rw [e1] at h3 ⊢;have h1':A < 2 ^ i:=by exact_mod_cast h1
 have h3':A + Y * 2 ^ i < 2 ^ 32:=by exact_mod_cast h3
 have e2:Y * 2 ^ i ||| A = A + Y * 2 ^ i:=by
  have h:=Nat.two_pow_add_eq_or_of_lt h1' Y;rw [Nat.mul_comm Y,← h,Nat.add_comm]
 have hw:IntKind.u32.bits = 32:=rfl;simp only [orI,hw,BitVec.ofInt_natCast,BitVec.toNat_or,BitVec.toNat_ofNat];rw [Nat.mod_eq_of_lt (by omega),Nat.mod_eq_of_lt (by omega),e2];simp [IntKind.wrap,IntKind.bits,IntKind.signed];omega
end
end
section
variable {w:Bool}
def KB (L:Nat) (bs:List Blk) (B:Nat):Nat -> Prop:=fun x=>L <= x /\ x < bs.length /\ x ≠ B
def KL (L:Nat) (bs:List Blk):Nat -> Prop:=fun x=>L <= x /\ x < bs.length
def AccV (w:Bool) (L z k n:Nat) (ds:List D) (bs:List Blk) (v:V):Prop:=(n = 0 /\ ds = [] /\ v = .d (.slice true [])) \/ (0 < n /\ ∃ B cs,L <= B /\ v = .row B 0 n none z /\ ah bs B = some cs /\ cs.length = n * z /\ Hngs w (KB L bs B) bs k cs ds)
theorem AccV.nil (L z k:Nat) (bs:List Blk):AccV w L z k 0 [] bs (.d (.slice true [])):=.inl ⟨rfl,rfl,rfl⟩
theorem AccV.nu {L z k n:Nat} {ds:List D} {bs:List Blk} {v:V} (h:AccV w L z k n ds bs v):nu v = some v:=by
 rcases h with ⟨_,_,rfl⟩ | ⟨_,B,cs,_,rfl,_⟩ <;> rfl
theorem AccV.on {L z k n:Nat} {ds:List D} {bs bs':List Blk} {v:V} (h:AccV w L z k n ds bs v) (hl:bs.length <= bs'.length) (ho:∀ x,L <= x -> x < bs.length -> bs'[x]? = bs[x]?):AccV w L z k n ds bs' v:=by
 rcases h with h | ⟨h0,B,cs,h1,h2,h3,h4,h5⟩
 · exact .inl h
 · refine .inr ⟨h0,B,cs,h1,h2,?_,h4,h5.on (fun x hx=>ho x hx.1 hx.2.1) fun x hx=>⟨hx.1,by have:=hx.2.1; omega,hx.2.2⟩⟩;rw [← h3]; unfold ah; rw [ho B h1 (aP h3)]
theorem AccV.app {L L2 z k n:Nat} {ds es:List D} {bs:List Blk} {v:V} (h:AccV w L z k n ds bs v) (hz0:0 < z) {by_:Nat} (hby:by_ <= 4096) (hl:n < big) {r:Nat} {cap:Option Nat} {vs:List V} (hvl:vs.length = z) (hr:ah bs r = some vs)
 (hL:L <= L2) (hB:∀ B n' c,v = .row B 0 n' c z -> B < L2) (hv:Hngs w (KL L2 bs) bs k vs es) (hLb:L <= bs.length) :
 ∃ v' bs',∃ F:Nat -> Nat,(∀ lo,dZ ⟨bs,lo⟩ z by_ v (.row r 0 1 cap z) = some (v',⟨bs',F lo⟩)) /\ AccV w L z k (n + 1) (ds ++ es) bs' v' /\ bs.length <= bs'.length /\ (∀ x,x < L -> bs'[x]? = bs[x]?) /\ ∀ lo:Nat,F lo <= lo:=by
 have hrc:∀ lo,aF ⟨bs,lo⟩ (.row r 0 1 cap z) z = some (1,vs):=fun lo=>by
  have:sub vs 0 z = some vs:=bB hvl;simp only [aF,if_true,get_eq,hr,Nat.one_mul,this,Option.map_some]
 have hroom:∀ n,n <= big -> roomy n by_ = true:=fun n hn=>by simp only [roomy,Bool.and_eq_true,decide_eq_true_eq]; exact ⟨hn,hby⟩
 rcases h with ⟨rfl,rfl,rfl⟩ | ⟨h0,B,cs,h1,rfl,h3,h4,h5⟩
 · refine ⟨.row bs.length 0 1 none z,bs ++ [.cells vs],id,fun lo=>by simp only [dZ,hrc,aC,if_neg (show ¬ (1 = 0) by decide),if_neg (show ¬ z = 0 by omega),hroom 1 (by decide),if_true]; rfl,.inr ⟨by omega,bs.length,vs,hLb,rfl,by simp,by simpa using hvl,?_⟩,by simp,fun x hx=>by rw [List.getElem?_append_left (by omega)],fun lo=>Nat.le_refl _⟩;exact hv.on (fun x hx=>by rw [List.getElem?_append_left hx.2]) fun x hx=>⟨by have:=hx.1; omega,by have:=hx.2; simp; omega,by have:=hx.2; omega⟩
 · have hsub:sub cs 0 (n * z) = some cs:=bB h4;have hpos:0 < cs.length:=by rw [h4]; exact Nat.mul_pos h0 hz0
   have hbl:=aP h3;have hBL:=hB B n none rfl;refine ⟨.row bs.length 0 (n + 1) none z,bs.set B (.cells []) ++ [.cells (cs ++ vs)],fun lo=>min lo B,fun lo=>by simp only [dZ,hrc,aC,ne_eq,not_true_eq_false,false_or,if_neg (show ¬ (1 = 0) by decide),if_neg (show ¬ z = 0 by omega),get_eq,h3,hsub,hroom (n + 1) (by omega),Bool.not_true,Bool.false_eq_true,if_false,hpos,and_self,if_true,Hp.size,Hp.alloc,Hp.set,List.length_set],.inr ⟨by omega,bs.length,cs ++ vs,hLb,rfl,?_,by rw [List.length_append,h4,hvl,Nat.succ_mul],?_⟩,by simp,fun x hx=>?_,fun lo=>Nat.min_le_left _ _⟩
   · have:ah (bs.set B (.cells []) ++ [.cells (cs ++ vs)]) (bs.set B (.cells [])).length = some (cs ++ vs):=by rw [dF]; rfl
     rw [List.length_set] at this;exact this
   · have ho:∀ x,x < bs.length -> x ≠ B -> (bs.set B (.cells []) ++ [.cells (cs ++ vs)])[x]? = bs[x]?:=fun x hx hne=>by
      rw [List.getElem?_append_left (by simpa using hx),List.getElem?_set_ne (Ne.symm hne)]
     refine (h5.on (fun x hx=>ho x hx.2.1 hx.2.2) fun x hx=>⟨hx.1,by have:=hx.2.1; simp; omega,by have:=hx.2.1; omega⟩).app (hv.on (fun x hx=>ho x hx.2 (by have:=hx.1; omega)) fun x hx=>⟨by have:=hx.1; omega,by have:=hx.2; simp; omega,by have:=hx.2; omega⟩)
   · rw [List.getElem?_append_left (by simp; omega),List.getElem?_set_ne (by omega)]
theorem AccV.hng {L z k n:Nat} {bs:List Blk} {v:V} {es:List (List D)} (h:AccV w L z k n es.flatten bs v) (hz:∀ e ∈ es,e.length = z) (hn:n = es.length):Hng w (KL L bs) bs v (.slice es.isEmpty es) (k + 1):=by
 rcases h with ⟨h0,h1,rfl⟩ | ⟨h0,B,cs,h1,rfl,h3,h4,h5⟩
 · have:es = []:=List.eq_nil_of_length_eq_zero (by omega);subst this;exact Hng.d fun nl c cs hh=>by simp at hh
 · have he:es.isEmpty = false:=by cases es with
    | nil=>simp at hn; omega
    | cons _ _=>rfl
   rw [he];exact Hng.row ⟨h1,aP h3⟩ h3 (h5.on (fun _ _=>rfl) fun x hx=>⟨hx.1,hx.2.1⟩) hz hn
def Rds {α:Type} (w:Bool) (E:Calls') (g:FuncId) (args:List V) (p:Nat) (P:Pr α) (cells:α -> List D) (k:Nat) (Z:V) (bs:List Blk):Prop :=
 ∀ st,RdS p bs st -> ∃ v vs x st' bs',∃ F:Nat -> Nat,(∀ lo,Sm E TRd aj g args ⟨bs,lo⟩ = some (v,⟨bs',F lo⟩)) /\ v.cells = some vs /\ Hngs w (KL bs.length bs') bs' k vs (cells x) /\ Step P st x st' /\ RdS p bs' st' /\ Old p bs bs' /\ (∀ lo:Nat,F lo <= lo) /\ (st = none -> v = Z /\ bs' = bs /\ ∀ lo,F lo = lo) /\ (st ≠ none -> ∀ lo,F lo <= p)
def wE {α:Type} (w:Bool) (E:Calls') (g:FuncId) (args:List V) (p:Nat) (P:Pr α) (cells:α -> List D) (k:Nat) (bs:List Blk):Prop :=
 ∀ st,RdS p bs st -> ∃ v vs x st' bs',∃ F:Nat -> Nat,(∀ lo,Sm E TRd aj g args ⟨bs,lo⟩ = some (v,⟨bs',F lo⟩)) /\ v.cells = some vs /\ Hngs w (KL bs.length bs') bs' k vs (cells x) /\ Step P st x st' /\ RdS p bs' st' /\ Old p bs bs' /\ ∀ lo:Nat,F lo <= lo
theorem Rds.weak {α:Type} {E:Calls'} {g:FuncId} {args:List V} {p:Nat} {P:Pr α} {cells:α -> List D} {k:Nat} {Z:V} {bs:List Blk} (h:Rds w E g args p P cells k Z bs):wE w E g args p P cells k bs:=fun st hR=>by
 obtain ⟨v,vs,x,st',bs',F,a1,a2,a3,a4,a5,a6,a7,_⟩:=h st hR;exact ⟨v,vs,x,st',bs',F,a1,a2,a3,a4,a5,a6,a7⟩
def RdsR {α:Type} (w:Bool) (E:Calls') (g:FuncId) (args:List V) (p:Nat) (P:Pr (Sl α)) (cells:α -> List D) (k:Nat) (bs:List Blk):Prop :=
 ∀ st,RdS p bs st -> ∃ v x st' bs',∃ F:Nat -> Nat,(∀ lo,Sm E TRd aj g args ⟨bs,lo⟩ = some (v,⟨bs',F lo⟩)) /\ (v.cells = some [v] /\ nu v = some v) /\ Hng w (KL bs.length bs') bs' v (Sl.d cells x) k /\ Step P st x st' /\ RdS p bs' st' /\ Old p bs bs' /\ (∀ lo:Nat,F lo <= lo) /\ (st ≠ none -> ∀ lo,F lo <= p)
theorem RdsR.mk {α:Type} {E:Calls'} {g:FuncId} {args:List V} {p:Nat} {P:Pr (Sl α)} {cells:α -> List D} {k:Nat} {bs:List Blk} (h0:RdS p bs none -> ∀ lo,Sm E TRd aj g args ⟨bs,lo⟩ = some (.d (.slice true []),⟨bs,lo⟩))
 (h1:∀ b,RdS p bs (some b) -> ∃ v x st' bs',∃ F:Nat -> Nat,(∀ lo,Sm E TRd aj g args ⟨bs,lo⟩ = some (v,⟨bs',F lo⟩)) /\ (v.cells = some [v] /\ nu v = some v) /\ Hng w (KL bs.length bs') bs' v (Sl.d cells x) k /\ Step P (some b) x st' /\ RdS p bs' st' /\ Old p bs bs' /\ (∀ lo:Nat,F lo <= lo) /\ ∀ lo,F lo <= p):RdsR w E g args p P cells k bs:=by
 intro st hR;cases st with
 | none=>exact ⟨_,⟨true,[]⟩,none,bs,fun lo=>lo,h0 hR,⟨rfl,rfl⟩,Hng.d (by simp [Sl.d]),rfl,hR,Old.refl _ _,fun lo=>Nat.le_refl _,fun h=>absurd rfl h⟩
 | some b =>
  obtain ⟨v,x,st',bs',F,a1,a2,a3,a4,a5,a6,a7,a8⟩:=h1 b hR;exact ⟨v,x,st',bs',F,a1,a2,a3,a4,a5,a6,a7,fun _=>a8⟩
end
section
variable {w:Bool}
def yB (z by_:Nat) (zero:List V):QC:=(sr [op 12 (bt .lss 11 10)] (.seq (.cond (.t 12) .skip (.exit 0 [7])) (.seq (.block 1 (.reg none [mv 13 7,mv 14 2,op 15 (kt' 14 []),op 16 (.buildS z 1 zero [(0,z,(.t 15))]),op 17 (.app z by_ (.t 13) (.t 16)),mv 7 17])) (.reg none [op 18 (bc .add 11 1),mv 11 18]))))
def rowQ (sm z by_:Nat) (zero:List V):QF:=⟨20,[.tmp 6],(sr [op 3 (.box (.t 0)),op 6 (.mov (.c zs0))] (sr [op 7 (.mov (.c zs0))] (.seq (sr [op 8 (lf 1 3),mv 9 1,op 10 (.call (.c (.fn sm [])) [.t 8,.t 9]),oc' 11 0] (.block 0 (.loop [2,7,10,11] (yB z by_ zero)))) (sr [mv 19 7,mv 6 19] (.ret [6])))))⟩
theorem xg {ev:X -> V} {x:X} {v:V} {vs zero:List V} {z:Nat} (hx:ev x = v) (hv:v.cells = some vs) (hvl:vs.length = z) (hz:zero.length = z):aA ev zero [(0,z,x)] = some vs:=by
 have hd:zero.drop vs.length = []:=List.drop_eq_nil_of_le (by omega);simp [aA,hx,hv,hvl,put,hz,hd]
theorem Hngs.cells_len {K:Nat -> Prop} {bs:List Blk} {k:Nat} {vs:List V} {ds:List D} (h:Hngs w K bs k vs ds) {z:Nat} (hz:ds.length = z):vs.length = z:=h.len.trans hz
theorem RdS.upto {p:Nat} {bs bs':List Blk} {st:Option (List Int)} (h:RdS p bs st) (ho:∀ y,y <= p -> bs'[y]? = bs[y]?):RdS p bs' st:=by
 obtain ⟨v,l,h1,h2,h3⟩:=h;refine ⟨v,l,?_,?_,h3⟩
 · rw [← h1]; unfold ah; rw [ho p (Nat.le_refl _)]
 · rcases h2 with h | ⟨g1,B,o,cs,g2,g3,g4,g5⟩
   · exact .inl h
   · exact .inr ⟨g1,B,o,cs,g2,g3,by rw [← g4]; unfold ah; rw [ho B (by omega)],g5⟩
section
variable {E:Calls'}
theorem I7 {α:Type} {P:Pr α} {cells:α -> List D} {z by_ k:Nat} {zero:List V} (hz0:0 < z) (hby:by_ <= 4096) (hzero:zero.length = z) (hcl:∀ x,(cells x).length = z) {g:FuncId} {args:List V} {fv:V} (hfv:∀ C h,ed C fv [] h = C g args h) (hnu:nu fv = some fv)
 {p:Nat} {bs0:List Blk} (hp:p < bs0.length) (hone:∀ bs,Old p bs0 bs -> wE w E g args p P cells k bs) {N:Nat} (hN:N < big) :
 ∀ (m i:Nat) (bs:List Blk) (v:V) (st:Option (List Int)) (ds:List D),i + m = N -> RdS p bs st -> AccV w bs0.length z k i ds bs v -> Old p bs0 bs →
 ∃ v' xs st' bs',∃ F:Nat -> Nat,(∀ lo,Cd E TRd aj (.loop [2,7,10,11] (yB z by_ zero)) [(2,fv),(7,v),(10,.d (i64 N)),(11,.d (i64 i))] ⟨bs,lo⟩ = some (.exit 0,[(7,v')],⟨bs',F lo⟩)) /\ xs.length = m /\ AccV w bs0.length z k N (ds ++ (xs.map cells).flatten) bs' v' /\ Step (pV P m) st xs st' /\ RdS p bs' st' /\ Old p bs0 bs' /\ ∀ lo:Nat,F lo <= lo:=by
 intro m;have hN2:N < 2 ^ 62:=Nat.lt_trans hN (by decide);have key:=ax (E:=E) (T:=TRd) (val:=aj) [2,7,10,11] (yB z by_ zero);generalize Cd E TRd aj (.loop [2,7,10,11] (yB z by_ zero)) = W at key ⊢
 induction m with
 | zero =>
  intro i bs v st ds hi hR hA ho;have:i = N:=by omega
  subst this;refine ⟨v,[],st,bs,id,fun lo=>?_,rfl,by simpa using hA,Step.nil,hR,ho,fun lo=>Nat.le_refl _⟩;rw [key];simp [yB]
 | succ m ih =>
  intro i bs v st ds hi hR hA ho;obtain ⟨v1,vs,x,st1,bs1,F1,a1,a2,a3,a4,a5,a6,a7⟩:=hone bs ho st hR;have hvl:=a3.cells_len (hcl x);have hA1:AccV w bs0.length z k i ds (bs1 ++ [.cells vs]) v:=hA.on (by have:=a6.1; simp; omega) fun y h1 h2=>by
   rw [List.getElem?_append_left (by have:=a6.1; omega)];exact a6.2 y (by omega) h2
  have hBl:∀ B n' c,v = .row B 0 n' c z -> B < bs.length:=by
   rintro B n' c rfl;rcases hA with ⟨_,_,h⟩ | ⟨_,B',cs,_,h,h3,_⟩
   · cases h
   · cases h; exact aP h3
  have hle:=ho.1;have hle1:=a6.1;obtain ⟨v2,bs2,F2,b1,b2,b3,b4,b5⟩:=hA1.app hz0 hby (by omega) (r:=bs1.length) (cap:=some 1) hvl (by simp) (L2:=bs.length) hle hBl
   (a3.on (fun y hy=>by rw [List.getElem?_append_left hy.2]) fun y hy=>⟨hy.1,by have:=hy.2; simp; omega⟩) (by simp; omega)
  have hR2:RdS p bs2 st1:=a5.upto fun y hy=>by
   rw [b4 y (by omega),List.getElem?_append_left (by omega)]
  have ho2:Old p bs0 bs2:=⟨by simp at b3; omega,fun y h1 h2=>by
   rw [b4 y h2,List.getElem?_append_left (by omega),a6.2 y h1 (by omega),ho.2 y h1 h2]⟩
  obtain ⟨v',xs,st',bs',F3,c1,c2,c3,c4,c5,c6,c7⟩:=ih (i + 1) bs2 v2 st1 _ (by omega) hR2 b2 ho2;refine ⟨v',x :: xs,st',bs',fun lo=>F3 (F2 (F1 lo)),fun lo=>?_,by simp [c2],by simpa using c3,Step.row a4 c4,c5,c6,fun lo=>Nat.le_trans (c7 _) (Nat.le_trans (b5 _) (a7 _))⟩;rw [← c1,key];have hw:=aK (i:=i) (n:=N) (by omega) hN2;have hlt:((i:Int) < (N:Int)):=by omega
  have hfill:∀ ev:X -> V,ev (.t 15) = v1 -> aA ev zero [(0,z,.t 15)] = some vs:=fun ev he=>xg he a2 hvl hzero;simp [yB,hlt,hA.nu,hnu,hfv,a1,hfill,b1,b2.nu,hw]
end
end
section
variable {w:Bool}
section
variable {E:Calls'}
theorem JR {p:Nat} {bs:List Blk} {st:Option (List Int)} (hR:RdS p bs st):∃ bs',(∀ lo,Sm E TRd aj 140 [.ptr p 0] ⟨bs,lo⟩ = some (.tup [],⟨bs',min lo p⟩)) /\ RdS p bs' none /\ Old p bs bs':=by
 have hp:=hR.lt;obtain ⟨v,l,h1,h2,h3,h4,h5⟩:=hR;obtain ⟨n1,n2,n3⟩:=h2.nu;refine ⟨bs.set p (.cells [v,bl true]),fun lo=>?_,⟨v,l,?_,h2.on fun x hx hl=>by rw [List.getElem?_set_ne (Ne.symm hx)],h3,h4,fun b hb=>by cases hb⟩,Old.set _ _⟩
 · rw [aB ay3 bg3];simp [Nh,af,h1,storeAt,put,Hp.set,V.under,V.under.go];rw [if_neg (by omega),Nat.min_eq_right (Nat.le_of_lt hp)];rfl
 · rw [ai,if_pos rfl,if_pos hp]; rfl
theorem EF {n most:Int} (h0:0 <= most) (h1:most < 2 ^ 63) (hn:n <= most) (h2:0 <= n):IntKind.wrap .i64 n = n:=wrap64 (by omega) (by omega)
section
variable (h404:∀ x h,E 130 [.d (u64 x)] h = some (.d (i64 (dP x)),h))
include h404
theorem ET {p:Nat} {bs:List Blk} {st:Option (List Int)} (hR:RdS p bs st) {most:Int} (hm0:0 <= most) (hm:most < 2 ^ 63) :
 ∃ n st' bs',∃ F:Nat -> Nat,(∀ lo,Sm E TRd aj 217 [.agg [.ptr p 0],.d (i64 most)] ⟨bs,lo⟩ = some (.d (i64 n),⟨bs',F lo⟩)) /\ StepZ (bV most) st n st' /\ 0 <= n /\ n <= most /\ RdS p bs' st' /\ Old p bs bs' /\ (∀ lo:Nat,F lo <= lo) /\ (st = none -> n = 0 /\ bs' = bs /\ ∀ lo,F lo = lo) /\ (st ≠ none -> ∀ lo,F lo <= p):=by
 have hp:=hR.lt;obtain ⟨x,st1,bs1,F1,k1,k2,k3,k4,k5,k6,k7,k8⟩:=rD h404 (hR.lay [.cells [.ptr p 0]]);have hL:ah bs1 bs.length = some [.ptr p 0]:=by
  have:=k5.2 bs.length (by omega) (by simp);unfold ah; rw [this]; simp
 have hw:IntKind.wrap .u64 most = most:=by rw [wrap_u64]; omega
 cases st with
 | none =>
  obtain ⟨rfl,k7⟩:=k7 rfl;have hn:st1 = none:=k2;subst hn;have hx:=k3 rfl;subst hx;refine ⟨0,none,bs,id,fun lo=>?_,⟨rfl,fun _=>rfl⟩,Int.le_refl _,hm0,hR,Old.refl _ _,fun lo=>Nat.le_refl _,fun _=>⟨rfl,rfl,fun _=>rfl⟩,fun h=>absurd rfl h⟩;rw [aB CB CF];simp [Ak,af,k1,k7,hw,show ¬ ((0:Int) > most) from by omega,show IntKind.wrap .i64 0 = 0 from by decide,V.under]
 | some b =>
  have k8:=k8 (by simp);have hlow:¬ bs.length <= F1 bs.length:=by have:=k8 bs.length; omega
  cases hu:pUint b with
  | none =>
   have hst:st1 = none:=by simpa [Step,hu] using k2
   subst hst;have hx:=k3 rfl;subst hx;refine ⟨0,none,bs1,fun lo=>min lo (F1 bs.length),fun lo=>?_,⟨by simp [Step,bV,Pr.keep,hu],fun _=>rfl⟩,Int.le_refl _,hm0,k4,(Old.lay bs _).trans k5,fun lo=>Nat.min_le_left _ _,fun h=>(by cases h),fun _ lo=>Nat.le_trans (Nat.min_le_right _ _) (k8 _)⟩;rw [aB CB CF];simp [Ak,af,k1,hw,show ¬ ((0:Int) > most) from by omega,show IntKind.wrap .i64 0 = 0 from by decide,hlow]
  | some y =>
   obtain ⟨y,l⟩:=y;have hst:x = y /\ st1 = some l:=by simpa [Step,hu] using k2
   obtain ⟨rfl,rfl⟩:=hst;have hbyte:byteL b:=by
    obtain ⟨v,l',g1,g2,g3,g4,g5⟩:=hR;rw [g5 b rfl]; exact g3
   have h0:=(uint_cod.bwd b x l hbyte hu).2;by_cases hgt:x > most
   · obtain ⟨bs2,q1,q2,q3⟩:=JR (E:=E) k4;refine ⟨0,none,bs2,fun lo=>min lo (min (F1 bs.length) p),fun lo=>?_,⟨by simp [Step,bV,Pr.keep,hu,show ¬ x <= most from by omega],fun _=>rfl⟩,Int.le_refl _,hm0,q2,((Old.lay bs _).trans k5).trans q3,fun lo=>Nat.min_le_left _ _,fun h=>(by cases h),fun _ lo=>Nat.le_trans (Nat.min_le_right _ _) (Nat.min_le_right _ _)⟩;rw [aB CB CF];simp [Ak,af,k1,hw,hgt,hL,q1,show ¬ bs.length <= min (F1 bs.length) p from by omega]
   · refine ⟨x,some l,bs1,fun lo=>min lo (F1 bs.length),fun lo=>?_,⟨by simp [Step,bV,Pr.keep,hu,show x <= most from by omega],fun h=>by cases h⟩,h0.1,by omega,k4,(Old.lay bs _).trans k5,fun lo=>Nat.min_le_left _ _,fun h=>(by cases h),fun _ lo=>Nat.le_trans (Nat.min_le_right _ _) (k8 _)⟩;rw [aB CB CF];simp [Ak,af,k1,hw,hgt,EF hm0 hm (by omega) h0.1,hlow]
omit h404 in
theorem row_zero {z by_:Nat} {zero:List V} {fv v:V} (hv:nu v = some v) (h:Hp):Cd E TRd aj (.loop [2,7,10,11] (yB z by_ zero)) [(2,fv),(7,v),(10,.d (i64 0)),(11,.d (i64 0))] h = some (.exit 0,[(7,v)],h):=by
 rw [ax];simp [yB]
theorem mP {id z by_:Nat} {zero:List V} (ht:TRd id = some (rowQ 217 z by_ zero)) (hv:aj id = false) {fv:V} (hnu:nu fv = some fv) (hok:okV fv = true) {p:Nat} {bs:List Blk} {most:Int} (hm0:0 <= most) (hm:most < big) (hR:RdS p bs none) (lo:Nat) :
 Sm E TRd aj id [.agg [.ptr p 0],.d (i64 most),fv] ⟨bs,lo⟩ = some (.d (.slice true []),⟨bs,lo⟩):=by
 obtain ⟨n,st1,bs1,F1,a1,a2,a3,a4,a5,a6,a7,a8,a9⟩:=ET h404 (hR.lay [.cells [.ptr p 0]]) hm0 (show most < 2 ^ 63 from Int.lt_trans hm (by decide));obtain ⟨rfl,rfl,a8⟩:=a8 rfl;rw [aB ht hv];simp [rowQ,af,a1,a8,hnu];rw [aH];simp [row_zero (E:=E) (v:=.d (.slice true [])) rfl,V.under,hnu]
theorem rE {α:Type} {P:Pr α} {cells:α -> List D} {z by_ k id:Nat} {zero:List V} (ht:TRd id = some (rowQ 217 z by_ zero)) (hv:aj id = false) (hz0:0 < z) (hby:by_ <= 4096) (hzero:zero.length = z) (hcl:∀ x,(cells x).length = z) {g:FuncId} {args:List V} {fv:V} (hfv:∀ C h,ed C fv [] h = C g args h) (hnu:nu fv = some fv) (hok:okV fv = true)
 {p:Nat} {bs:List Blk} {most:Int} (hm0:0 <= most) (hm:most < big) (hone:∀ bs',Old p bs bs' -> wE w E g args p P cells k bs') :
 RdsR w E id [.agg [.ptr p 0],.d (i64 most),fv] p (pSl most P) cells (k + 1) bs:=by
 refine RdsR.mk (mP h404 ht hv hnu hok hm0 hm) fun b hR=>?_;have hp:=hR.lt;obtain ⟨n,st1,bs1,F1,a1,a2,a3,a4,a5,a6,a7,a8,a9⟩:=ET h404 (hR.lay [.cells [.ptr p 0]]) hm0 (show most < 2 ^ 63 from Int.lt_trans hm (by decide));have a9:=a9 (by simp);obtain ⟨N,rfl⟩:=Int.eq_ofNat_of_zero_le a3;obtain ⟨v',xs,st',bs',F2,c1,c2,c3,c4,c5,c6,c7⟩:=I7 (E:=E) (by_:=by_) hz0 hby hzero hcl hfv hnu (bs0:=bs ++ [.cells [.ptr p 0]]) (by simp; omega) (fun bs' ho=>hone bs' ((Old.lay bs _).trans ho)) (N:=N) (by omega) N 0 bs1 (.d (.slice true [])) st1 [] (by omega) a5 (AccV.nil _ _ _ _) a6;have hflat:(xs.map cells).length = N:=by simp [c2]
 have hH:=AccV.hng (es:=xs.map cells) (by simpa using c3) (fun e he=>by obtain ⟨x,_,rfl⟩:=List.mem_map.1 he; exact hcl x) hflat.symm;have hS:Step (pSl most P) (some b) ⟨xs.isEmpty,xs⟩ st':=by
  have:=(StepZ.seq a2 (l:=xs) (s2:=st') (by simpa using c4)).map fun l=>(⟨l.isEmpty,l⟩:Sl α);exact this
 have hF:F2 (F1 bs.length) <= p:=Nat.le_trans (c7 _) (a9 _);refine ⟨v',⟨xs.isEmpty,xs⟩,st',bs',fun lo=>min lo (F2 (F1 bs.length)),fun lo=>?_,⟨?_,c3.nu⟩,?_,hS,c5,(Old.lay bs _).trans c6,fun lo=>Nat.min_le_left _ _,fun lo=>Nat.le_trans (Nat.min_le_right _ _) hF⟩
 · rw [aB ht hv];simp only [Int.natCast_zero] at c1;simp [rowQ,af,a1,hnu];rw [aH];simp [c1,c3.nu,hnu,show ¬ bs.length <= F2 (F1 bs.length) from by omega]
 · rcases c3 with ⟨_,_,rfl⟩ | ⟨_,B,cs,_,rfl,_⟩ <;> rfl
 · have:Sl.d cells ⟨xs.isEmpty,xs⟩ = .slice (xs.map cells).isEmpty (xs.map cells):=by simp [Sl.d]
   rw [this];exact hH.on (fun _ _=>rfl) fun x hx=>⟨by
    have h1:bs.length + 1 <= x:=hx.1;omega,hx.2⟩
end
end
end
section
section
variable {E:Calls'}
theorem Ku (p:Nat) (bs:List Blk):Finds E 426 [] p bs pU32 (fun n=>.int .u32 n):=by
 intro v l hB hb hl;obtain ⟨nl,hf⟩:=hB.frz;have hlen:∀ h,qL false (.d (Sl.d u8C ⟨nl,l⟩)) h = some (.d (i64 l.length),h):=fun h=>by simp [Sl.d]
 have short:l.length < 4 -> pU32 l = none -> (pU32 l = none /\ ∃ d,∀ lo,Sm E TRd aj 426 (v :: []) ⟨bs,lo⟩ = some (.tup [.d d,.d (i64 (-1))],⟨bs,lo⟩)):=fun h1 h2=>by
  have h3:((l.length:Int) < 4):=by omega
  exact ⟨h2,.int .u32 0,fun lo=>mD (h':=⟨[],0⟩) Pz Qa (hf lo) (by simp [af,IX,hlen,h3]) rfl⟩
 match l,hb,hl,hf,hlen,short with
 | [],_,_,_,_,short=>exact .inr (short (by simp) rfl)
 | [_],_,_,_,_,short=>exact .inr (short (by simp) rfl)
 | [_,_],_,_,_,_,short=>exact .inr (short (by simp) rfl)
 | [_,_,_],_,_,_,_,short=>exact .inr (short (by simp) rfl)
 | a :: b :: c :: d :: l,hb,hl,hf,hlen,_ =>
  have ha:=hb a (by simp);have hb':=hb b (by simp);have hc:=hb c (by simp);have hd:=hb d (by simp);refine .inl ⟨a + 256 * b + 65536 * c + 16777216 * d,4,rfl,by omega,by simp,fun lo=>mD (h':=⟨[],0⟩) Pz Qa (hf lo) ?_ rfl⟩;have x0:=fun h=>bi (z:=1) (k:=0) (s:=⟨nl,a :: b :: c :: d :: l⟩) (cells:=u8C) (e:=a) h rfl rfl;have x1:=fun h=>bi (z:=1) (k:=1) (s:=⟨nl,a :: b :: c :: d :: l⟩) (cells:=u8C) (e:=b) h rfl rfl;have x2:=fun h=>bi (z:=1) (k:=2) (s:=⟨nl,a :: b :: c :: d :: l⟩) (cells:=u8C) (e:=c) h rfl rfl;have x3:=fun h=>bi (z:=1) (k:=3) (s:=⟨nl,a :: b :: c :: d :: l⟩) (cells:=u8C) (e:=d) h rfl rfl;have h3:¬ (((a :: b :: c :: d :: l).length:Int) < 4):=by simp; omega
  have wu:∀ n:Int,0 <= n -> n < 4294967296 -> IntKind.wrap .u32 n = n:=fun n h1 h2=>by simp [IntKind.wrap,IntKind.bits,IntKind.signed]; omega
  have s1:bJ .shl (.d (.int .u32 d)) (.d (.int .u64 24)) = some (.int .u32 (d * 2 ^ 24)):=by rw [nT (by omega)]; congr 1; show D.int .u32 (IntKind.wrap .u32 (d * 2 ^ 24)) = _; rw [wu _ (by omega) (by omega)]
  have s2:bJ .shl (.d (.int .u32 c)) (.d (.int .u64 16)) = some (.int .u32 (c * 2 ^ 16)):=by rw [nT (by omega)]; congr 1; show D.int .u32 (IntKind.wrap .u32 (c * 2 ^ 16)) = _; rw [wu _ (by omega) (by omega)]
  have s3:bJ .shl (.d (.int .u32 b)) (.d (.int .u64 8)) = some (.int .u32 (b * 2 ^ 8)):=by rw [nT (by omega)]; congr 1; show D.int .u32 (IntKind.wrap .u32 (b * 2 ^ 8)) = _; rw [wu _ (by omega) (by omega)]
  have o1:orI .u32 (d * 2 ^ 24) (c * 2 ^ 16) = c * 2 ^ 16 + d * 2 ^ 24:=zX (by omega) (by omega) (by omega) (by omega);have e2:c * 2 ^ 16 + d * 2 ^ 24 = (c + d * 2 ^ 8) * 2 ^ 16:=by omega
  have o2:orI .u32 (c * 2 ^ 16 + d * 2 ^ 24) (b * 2 ^ 8) = b * 2 ^ 8 + (c * 2 ^ 16 + d * 2 ^ 24):=by rw [e2]; exact zX (by omega) (by omega) (by omega) (by omega)
  have e3:b * 2 ^ 8 + (c * 2 ^ 16 + d * 2 ^ 24) = (b + c * 2 ^ 8 + d * 2 ^ 16) * 2 ^ 8:=by omega
  have o3:orI .u32 (b * 2 ^ 8 + (c * 2 ^ 16 + d * 2 ^ 24)) a = a + 256 * b + 65536 * c + 16777216 * d:=by
   rw [e3,zX (by omega) (by omega) (by omega) (by omega)]; omega
  simp only [show ((0:Nat):Int) = 0 from rfl,show ((1:Nat):Int) = 1 from rfl,show ((2:Nat):Int) = 2 from rfl,show ((3:Nat):Int) = 3 from rfl] at x0 x1 x2 x3;have h3':¬ ((l.length:Int) + 1 + 1 + 1 + 1 < 4):=by omega
  simp [af,IX,hlen,h3',x0,x1,x2,x3,u8C,wu a ha.1 (by omega),wu b hb'.1 (by omega),wu c hc.1 (by omega),wu d hd.1 (by omega),s1,s2,s3,zx];have p24:(2:Int) ^ 24 = 16777216:=by decide
  have p16:(2:Int) ^ 16 = 65536:=by decide
  have p8:(2:Int) ^ 8 = 256:=by decide
  rw [← o3,← o2,← o1,p24,p16,p8]
theorem Xd {p:Nat} {bs:List Blk} {st:Option (List Int)} (hR:RdS p bs st):Reads E 404 [.ptr p 0] p bs st pU32 (fun n=>.int .u32 n) 0:=by
 have h:=kF (E:=E) (enc:=fun n=>D.int .u32 n) (zero:=0) bd9 bl2 hR (Ku p bs);have h':Reads E 425 [.ptr p 0,.fn 426 []] p (bs ++ []) st pU32 (fun n=>.int .u32 n) 0:=by rw [List.append_nil]; exact h
 refine h'.through [] (fun x bs' lo' k lo=>?_) hR;rw [List.append_nil] at k;rw [aB bd7 bl0];simp [af,NA,k]
theorem BRow.text {bs:List Blk} {p:Nat} {v:V} {l:List Int} (h:BRow bs p v l) {n x:Nat} (hn:0 < n) (hx:n + x <= l.length) :
 ∃ w,(∀ (hp:Hp) (ev:X -> V) (a b:X),ev a = .d (.int .i64 n) -> ev b = .d (.int .i64 ((n + x:Nat):Int)) -> bP hp ev .sl 1 v (some a) (some b) none = some w) /\ ∀ lo,lS w ⟨bs,lo⟩ = some (.d (.str (strOf ((l.drop n).take x))),⟨bs,lo⟩):=by
 rcases h with ⟨rfl,_⟩ | ⟨h1,B,o,cs,rfl,h3,h4,h5⟩
 · simp at hx; omega
 · by_cases hlt:n < l.length
   · refine ⟨.row B (o + n) x none 1,fun hp ev a b ha hb=>?_,fun lo=>?_⟩
     · have e1:((n + x:Nat):Int).toNat = n + x:=Int.toNat_natCast _;have hn0:¬ n = 0:=by omega
       simp only [bP,bQ,ha,hb,Int.natCast_nonneg,if_true,Int.toNat_natCast,Nat.le_add_right,hx,hn0,hlt,if_false,true_and,Nat.mul_one,Option.map_none,Nat.add_sub_cancel_left]
     · have hs:sub cs (o + n) x = some (((l.drop n).take x).map (iv .u8)):=by
        simp only [sub] at h5 ⊢;split at h5
        · rename_i hle;simp only [Option.some.injEq] at h5;rw [if_pos (by omega)]
          congr 1
          rw [List.map_take,List.map_drop,← h5,List.drop_take,List.take_take,List.drop_drop,Nat.min_eq_left (by omega)]
        · cases h5
       have hb:=wU (h:=⟨bs,lo⟩) (l:=(l.drop n).take x);have hall:(((l.drop n).take x).map fun n=>[D.int .u8 n]).all (fun e=>e.length == 1) = true:=by
        rw [List.all_eq_true];intro e he;obtain ⟨m,_,rfl⟩:=List.mem_map.1 he;rfl
       simp only [lS,bytesD,aF,hall,if_true,rO] at hb;simp only [lS,aF,if_true,get_eq,h4,Nat.mul_one,hs,Option.map_some];exact hb
   · have he:n = l.length:=by omega
     have hx0:x = 0:=by omega
     subst hx0;refine ⟨.d (.slice false []),fun hp ev a b ha hb=>?_,fun lo=>?_⟩
     · have hn0:¬ n = 0:=by omega
       simp only [Nat.add_zero] at hb;simp [bP,bQ,ha,hb,hlt,hn0];omega
     · simp only [List.take_zero];rfl
section
variable (h404:∀ x h,E 130 [.d (u64 x)] h = some (.d (i64 (dP x)),h))
include h404
theorem Kt {p:Nat} {bs:List Blk} {m:Nat} {most:Int} (hm:ah bs m = some [.d (i64 most)]) (h0:0 <= most) (h1:most < 2 ^ 62):Finds E 216 [.ptr m 0] p bs (iC most) (fun s=>.str s):=by
 intro v l hB hb hl;obtain ⟨n1,n2,n3⟩:=hB.nu;have hlen:=fun h=>hB.len h;have hw:IntKind.wrap .u64 most = most:=by rw [wrap_u64]; omega
 have hlb:l.length < 2 ^ 62:=Nat.lt_of_le_of_lt hl (by decide);rcases BO h404 p bs v l hB hb hl with ⟨x,n,k1,k2,k3,k4⟩ | ⟨k1,d,k4⟩
 · have hux:=(uint_cod.bwd l x (l.drop n) hb k1).2;have hneg:¬ ((n:Int) < 0):=by omega
   have hmn:¬ (most < 0):=by omega
   have hws:IntKind.wrap .i64 ((l.length:Int) - n) = (l.length:Int) - n:=wrap64 (by omega) (by omega);have hwu:IntKind.wrap .u64 ((l.length:Int) - n) = (l.length:Int) - n:=by rw [wrap_u64]; omega
   by_cases hbig:x <= most /\ x <= ((l.drop n).length:Int)
   · have hb2:x <= (l.length:Int) - n:=by have:=hbig.2; rw [List.length_drop] at this; omega
     obtain ⟨X,rfl⟩:=Int.eq_ofNat_of_zero_le hux.1;have hXn:n + X <= l.length:=by omega
     obtain ⟨w,g1,g2⟩:=hB.text k2 hXn;have hwx:IntKind.wrap .i64 (X:Int) = X:=wrap64 (by omega) (by omega);have hwe:IntKind.wrap .i64 ((n:Int) + X) = ((n + X:Nat):Int):=by rw [wrap64] <;> omega
     refine .inl ⟨strOf ((l.drop n).take X),n + X,?_,by omega,by omega,fun lo=>?_⟩
     · simp only [iC,k1];rw [if_pos hbig,List.drop_drop];simp
     · rw [aB I8 Jb];simp [af,Aj,k4,hm,hneg,hmn,hw,hws,hwu,hlen,n1,n2,n3,aG,show ¬ (X:Int) > most from by omega,show ¬ (X:Int) > (l.length:Int) - n from by omega,hwx,hwe,g1,g2,V.under,V.under.go]
   · refine .inr ⟨?_,.str ⟨#[]⟩,fun lo=>?_⟩
     · simp only [iC,k1];rw [if_neg hbig]
     · rw [aB I8 Jb];by_cases hg:x > most
       · simp [af,Aj,k4,hm,hneg,hmn,hw,hws,hwu,hlen,n1,n2,n3,aG,hg,V.under,V.under.go]
       · have hg2:x > (l.length:Int) - n:=by rw [List.length_drop] at hbig; omega
         simp [af,Aj,k4,hm,hneg,hmn,hw,hws,hwu,hlen,n1,n2,n3,aG,hg,hg2,V.under,V.under.go]
 · refine .inr ⟨by simp only [iC,k1],.str ⟨#[]⟩,fun lo=>?_⟩;rw [aB I8 Jb];simp [af,Aj,k4,hm,hw,hlen,n1,n2,n3,aG,V.under,V.under.go]
theorem wD {p:Nat} {bs:List Blk} {st:Option (List Int)} (hR:RdS p bs st) {most:Int} (h0:0 <= most) (h1:most < 2 ^ 62):Reads E 137 [.ptr p 0,.d (i64 most)] p bs st (iC most) (fun s=>.str s) ⟨#[]⟩:=by
 have h:=kF (E:=E) (enc:=fun s=>D.str s) (zero:=⟨#[]⟩) bc8 bk0 (hR.lay [.cells [.d (i64 most)]]) (Kt h404 (p:=p) (m:=bs.length) (by simp) h0 h1);refine h.through [.cells [.d (i64 most)]] (fun x bs' lo' k lo=>?_) hR;rw [aB ay1 bg1];simp [af,Ng,k]
end
theorem bv2 {p:Nat} {bs:List Blk} {st:Option (List Int)} (hR:RdS p bs st):∃ l,(∀ b,st = some b -> b = l) /\ ∀ lo,Sm E TRd aj 141 [.ptr p 0] ⟨bs,lo⟩ = some (.d (i64 l.length),⟨bs,lo⟩):=by
 obtain ⟨v,l,h1,h2,h3,h4,h5⟩:=hR;obtain ⟨n1,n2,n3⟩:=h2.nu;refine ⟨l,h5,fun lo=>?_⟩;have hlen:=fun h=>h2.len h;rw [aB bd0 bk4];simp [af,Nr,h1,n1,n2,n3,hlen,V.under]
theorem WH {p:Nat} {bs:List Blk} {st:Option (List Int)} (hR:RdS p bs st) (lo:Nat):Sm E TRd aj 142 [.ptr p 0] ⟨bs,lo⟩ = some (.d (i64 (if st.isNone = true then 2 else 0)),⟨bs,lo⟩):=by
 obtain ⟨v,l,h1,h2,h3,h4,h5⟩:=hR;obtain ⟨n1,n2,n3⟩:=h2.nu;rw [aB bd1 bk5];cases hst:st.isNone <;> rw [hst] at h1 <;> simp [af,Ns,h1,n1,n2,n3,aG,V.under]
theorem WG {p:Nat} {bs:List Blk} {st:Option (List Int)} (hR:RdS p bs st):∃ bs',∃ F:Nat -> Nat,(∀ lo,Sm E TRd aj 51 [.ptr p 0] ⟨bs,lo⟩ = some (.d (i64 (if st = some [] then 0 else 2)),⟨bs',F lo⟩)) /\ Old p bs bs' /\ ∀ lo:Nat,F lo <= lo:=by
 obtain ⟨l,k1,k2⟩:=bv2 (E:=E) hR;have hp:=hR.lt;by_cases hl:0 < l.length
 · obtain ⟨bs',q1,q2,q3⟩:=JR (E:=E) hR;have q4:=WH (E:=E) q2 (min bs.length p);have hne:¬ st = some []:=fun h=>by have:=k1 _ h; subst this; simp at hl
   refine ⟨bs',fun lo=>min lo (min bs.length p),fun lo=>?_,q3,fun lo=>Nat.min_le_left _ _⟩;rw [aB O8 PH];simp at q4;simp [af,Ef,k2,q1,q4,hl,hne,V.under];intro hh;omega
 · have hl0:l = []:=List.eq_nil_of_length_eq_zero (by omega);subst hl0;have q4:=WH (E:=E) hR bs.length;refine ⟨bs,id,fun lo=>?_,Old.refl _ _,fun lo=>Nat.le_refl _⟩;rw [aB O8 PH];cases st with
   | none=>simp at q4; simp [af,Ef,k2,q4,V.under]
   | some b =>
    have:=k1 b rfl;subst this;simp at q4; simp [af,Ef,k2,q4,V.under]
end
end
section
def Quiet (K:List Nat) (u:Tr):Prop:=u.call = false /\ u.big = false /\ u.wr = [] /\ u.lo = u.hi /\ ∀ b ∈ u.nd,b ∈ K
def Sto (K:List Nat) (u:Tr):Prop:=u.call = false /\ u.big = false /\ u.lo = u.hi /\ ∀ b ∈ u.wr,b ∉ K
def Lay (K:List Nat) (m:Nat) (u:Tr):Prop:=u.call = false /\ u.big = false /\ u.wr = [] /\ u.nd = [] /\ m <= u.lo /\ ∀ b ∈ K,b < m
def TrR (K:List Nat) (m:Nat) (t:Tr):Prop:=(∀ u,Quiet K u -> t.spares u = true /\ u.spares t = true) /\ ∀ u,Lay K m u -> t.spares u = true /\ u.spares t = true
theorem Quiet.spares {K:List Nat} {u w:Tr} (h:Quiet K u) (k:Quiet K w):u.spares w = true:=by
 obtain ⟨a1,a2,a3,a4,_⟩:=h;obtain ⟨b1,b2,_⟩:=k;simp only [Tr.spares,a2,b2,b1,a3,a4,Bool.or_self,Bool.false_eq_true,if_false,List.all_eq_true];intro b _;simp
theorem Quiet.sto {K:List Nat} {u w:Tr} (h:Quiet K u) (k:Sto K w):u.spares w = true /\ w.spares u = true:=by
 obtain ⟨a1,a2,a3,a4,a5⟩:=h;obtain ⟨b1,b2,b3,b4⟩:=k;constructor
 · simp only [Tr.spares,a2,b2,b1,a3,a4,Bool.or_self,Bool.false_eq_true,if_false,List.all_eq_true];intro b _;simp
 · simp only [Tr.spares,a2,b2,a1,b3,Bool.or_self,Bool.false_eq_true,if_false,List.all_eq_true];intro b hb;have:b ∉ w.wr:=fun hw=>b4 b hw (a5 b hb);simp [this]
theorem Quiet.lay {K:List Nat} {m:Nat} {u w:Tr} (h:Quiet K u) (k:Lay K m w):u.spares w = true /\ w.spares u = true:=by
 obtain ⟨a1,a2,a3,a4,a5⟩:=h;obtain ⟨b1,b2,b3,b4,b5,b6⟩:=k;constructor
 · simp only [Tr.spares,a2,b2,b1,b4,Bool.or_self,Bool.false_eq_true,if_false,List.all_nil]
 · simp only [Tr.spares,a2,b2,a1,b3,Bool.or_self,Bool.false_eq_true,if_false,List.all_eq_true];intro b hb;have h1:=b6 b (a5 b hb);have:¬ w.lo <= b:=by omega
   simp [this]
def Cls (K:List Nat) (m:Nat):Nat -> Tr -> Prop
 | 0,t=>Quiet K t
 | 1,t=>TrR K m t
 | 2,t=>Sto K t
 | _,t=>Lay K m t
def ClsOk (K:List Nat) (m:Nat):List Nat -> List Tr -> Prop
 | [],[]=>True
 | c :: cs,t :: ts=>Cls K m c t /\ ClsOk K m cs ts
 | _,_=>False
def QS:Nat -> Nat -> Bool
 | 0,_=>true
 | _,0=>true
 | 1,3=>true
 | 3,1=>true
 | _,_=>false
def Oh (pr:List (List Nat)) (cs:List Nat):Bool:=(List.range cs.length).all fun i=>(List.range cs.length).all fun j =>
 i == j || (pr.getD i []).contains j || (pr.getD j []).contains i || QS (cs.getD i 2) (cs.getD j 2)
theorem ClsOk.len {K:List Nat} {m:Nat}:∀ {cs:List Nat} {ts:List Tr},ClsOk K m cs ts -> cs.length = ts.length
 | [],[],_=>rfl
 | _ :: _,_ :: _,h=>by simp [ClsOk.len h.2]
 | [],_ :: _,h=>h.elim
 | _ :: _,[],h=>h.elim
theorem ClsOk.get {K:List Nat} {m:Nat}:∀ {cs:List Nat} {ts:List Tr},ClsOk K m cs ts -> ∀ {i:Nat},i < ts.length -> ∃ t,ts[i]? = some t /\ Cls K m (cs.getD i 2) t
 | [],[],_,i,hi=>by simp at hi
 | c :: cs,t :: ts,h,0,_=>⟨t,rfl,h.1⟩
 | c :: cs,t :: ts,h,i + 1,hi=>by
  obtain ⟨t,h1,h2⟩:=ClsOk.get h.2 (i:=i) (by simpa using hi);exact ⟨t,by simpa using h1,by simpa using h2⟩
 | [],_ :: _,h,_,_=>h.elim
 | _ :: _,[],h,_,hi=>h.elim
theorem Cls.spares {K:List Nat} {m:Nat} {s t:Tr} {a b:Nat} (ha:Cls K m a s) (hb:Cls K m b t) (h:QS a b = true):s.spares t = true:=by
 unfold QS at h;split at h
 · have ha:Quiet K s:=ha;unfold Cls at hb;split at hb
   · exact ha.spares hb
   · exact (hb.1 _ ha).2
   · exact (ha.sto hb).1
   · exact (ha.lay hb).1
 · have hb:Quiet K t:=hb;unfold Cls at ha;split at ha
   · exact Quiet.spares ha hb
   · exact (ha.1 _ hb).1
   · exact (hb.sto ha).2
   · exact (hb.lay ha).2
 · have ha:TrR K m s:=ha;have hb:Lay K m t:=hb;exact (ha.2 _ hb).1
 · have ha:Lay K m s:=ha;have hb:TrR K m t:=hb;exact (hb.2 _ ha).2
 · cases h
theorem dz {pr:List (List Nat)} {l:List Tr} (K:List Nat) (m:Nat) (cs:List Nat) (hck:Oh pr cs = true) (h:ClsOk K m cs l):fA pr l = true:=by
 unfold fA;simp only [List.all_eq_true,List.mem_range];intro i hi j hj;simp only [Oh,h.len,List.all_eq_true,List.mem_range] at hck;have hc:=hck i hi j hj;obtain ⟨s,s1,s2⟩:=h.get hi;obtain ⟨t,t1,t2⟩:=h.get hj;simp only [Bool.or_eq_true] at hc ⊢;rcases hc with hc | hc
 · exact .inl hc
 · refine .inr ?_;rw [s1,t1];exact s2.spares t2 hc
theorem bO {C:Calls'} {f:FuncId} {A:List V} {bs bs':List Blk} {v:V} {p:Nat} {F:Nat -> Nat} (hc:∀ lo,C f A ⟨bs,lo⟩ = some (v,⟨bs',F lo⟩)) (hp:p < bs.length) (ho:Old p bs bs') {st:Option (List Int)} (h0:st = none -> bs' = bs /\ ∀ lo,F lo = lo) (h1:st ≠ none -> ∀ lo,F lo <= p)
 {K:List Nat} (hK:∀ b ∈ K,b ≠ p /\ ∃ cs,ah bs b = some cs /\ bS cs cs = true) {m:Nat} (hm:bs.length <= m) :
 ∃ t,∃ G:Nat -> Nat,(∀ (lo:Nat) (args:List X) (ev:X -> V),args.all (fun x=>okV (ev x)) = true -> args.map ev = A -> ev (.c (.fn f [])) = .fn f [] -> bN C (.call (.c (.fn f [])) args) ev ⟨bs,lo⟩ = some (v,⟨bs',G lo⟩,t)) /\ TrR K m t /\ (∀ lo,G lo <= lo) /\ (st = none -> ∀ lo,G lo = lo) /\ (st ≠ none -> ∀ lo,G lo <= p):=by
 cases st with
 | none =>
  obtain ⟨e0,f0⟩:=h0 rfl;subst e0;refine ⟨⟨true,false,[],[],bs'.length,bs'.length,0⟩,fun lo=>lo,fun lo args ev ha hm hf=>?_,⟨fun u hu=>⟨?_,?_⟩,fun u hu=>⟨?_,?_⟩⟩,fun lo=>Nat.le_refl _,fun _ lo=>rfl,fun h=>absurd rfl h⟩
  · rw [aD,if_pos ha,hf,hm,nV,List.append_nil,hc,f0];simp
  · obtain ⟨a1,a2,a3,a4,_⟩:=hu;simp [Tr.spares,a1,a2]
  · obtain ⟨a1,a2,a3,a4,_⟩:=hu;simp [Tr.spares,a2,a3,a4]
  · obtain ⟨a1,a2,a3,a4,_⟩:=hu;simp [Tr.spares,a1,a2,a4]
  · obtain ⟨a1,a2,a3,a4,a5,_⟩:=hu;have:bs'.length <= u.lo:=by omega
    simp [Tr.spares,a2,a3,this]
 | some b =>
  have h1:=h1 (by simp) bs.length;refine ⟨⟨true,true,[],[],bs.length,bs'.length,⟨F bs.length,lg bs bs'⟩⟩,fun lo=>min lo (F bs.length),fun lo args ev ha hm hf=>?_,⟨fun u hu=>⟨?_,?_⟩,fun u hu=>⟨?_,?_⟩⟩,fun lo=>Nat.min_le_left _ _,(fun h=>by cases h),fun _ lo=>Nat.le_trans (Nat.min_le_right _ _) h1⟩
  · rw [aD,if_pos ha,hf,hm,nV,List.append_nil,hc];simp only;rw [if_neg (by omega)]
  · obtain ⟨a1,a2,a3,a4,a5⟩:=hu;have:(u.nd.all fun b=>decide (b < F bs.length) || (lg bs bs').contains b) = true:=by
     rw [List.all_eq_true];intro b hb;obtain ⟨c1,cs,c2,c3⟩:=hK b (a5 b hb);have hbl:=aP c2;have hcell:bs[b]? = some (.cells cs):=by
      unfold ah at c2;split at c2
      · rename_i hh; rw [hh]; simpa using c2
      · cases c2
     have:b ∈ lg bs bs':=by
      simp only [lg,List.mem_filter,List.mem_range];exact ⟨hbl,by rw [ho.2 b c1 hbl,hcell]; exact c3⟩
     simp [this]
    simp only [Tr.spares,a1,this,Bool.true_or,if_true];simp
  · obtain ⟨a1,a2,a3,a4,a5⟩:=hu;simp [Tr.spares,Tr.calm,a2,a3,a4]
  · obtain ⟨a1,a2,a3,a4,_⟩:=hu;simp [Tr.spares,a1,a4]
  · obtain ⟨a1,a2,a3,a4,a5,_⟩:=hu;have:bs.length <= u.lo:=by omega
    simp [Tr.spares,a2,a3,this]
end
end Go.Proofs.YtjkfknafpgfchaaGreat
