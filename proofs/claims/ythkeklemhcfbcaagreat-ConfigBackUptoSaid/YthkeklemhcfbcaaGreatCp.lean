/- slices.Compact at numbers, on a row of one's own. -/
import Derived.Test.YthkeklemhcfbcaaGreatQt
import Derived.Test.YthkeklemhcfbcaaGreatGn
import Derived.Test.YthkeklemhcfbcaaGreatSa
import Derived.Test.YthkeklemhcfbcaaGreatGd
import Derived.Test.YthkeklemhcfbcaaGreatMa
import Derived.Test.YthkeklemhcfbcaaGreatSx
import Derived.Test.YthkeklemhcfbcaaGreatWf
set_option maxRecDepth 100000
set_option linter.unusedVariables false
set_option linter.unusedSimpArgs false
namespace Go.Proofs.YthkeklemhcfbcaaGreat
def chg:List Int -> Nat
 | x :: y :: l=>(if x = y then 0 else 1) + chg (y :: l)
 | _=>0
theorem chg_le:∀ l:List Int,chg l <= l.length - 1
 | []=>by simp [chg]
 | [_]=>by simp [chg]
 | x :: y :: l=>by
  have:=chg_le (y :: l)
  simp only [chg,List.length_cons] at this ⊢
  split <;> omega
theorem chg_drop {zs:List Int} {i:Nat} (h:i + 1 < zs.length):chg (zs.drop i) = (if zs[i] = zs[i + 1] then 0 else 1) + chg (zs.drop (i + 1)):=by
 rw [List.drop_eq_getElem_cons (show i < zs.length by omega),List.drop_eq_getElem_cons h]
 simp only [chg]
def cmpN (zs:List Int):Nat:=if zs = [] then 0 else 1 + chg zs
def iv (kd:IntKind) (z:Int):V:=.d (.int kd z)
def Mr (bs:List Blk) (b:Nat) (cur:List V) (lo:Nat):Hp:=⟨bs.set b (.cells cur),lo⟩
section
variable {bs:List Blk} {b lo:Nat} {cur:List V}
theorem Mr_get (hb:b < bs.length):getB (Mr bs b cur lo).bs b = some cur:=by simp [Mr,getB,hb]
theorem Mr_ld (hb:b < bs.length) {k:Nat} {v:V} (hk:cur[k]? = some v):ldv (Mr bs b cur lo) (.ptr b k) 1 true = some (v,Mr bs b cur lo):=by
 obtain ⟨h1,h2⟩:=List.getElem?_eq_some_iff.1 hk
 have hs:sub cur k 1 = some [v]:=by
  rw [sub_eq,if_pos (by omega),List.drop_eq_getElem_cons h1,h2]; rfl
 rw [ldv_ptr,get_eq,Mr_get hb]
 simp only [hs]; rfl
theorem Mr_st (hb:b < bs.length) {k:Nat} {x:D} (hk:k < cur.length):stv (Mr bs b cur lo) (.ptr b k) (.d x) 1 = some (.undef,Mr bs b (cur.set k (.d x)) (min lo b)):=by
 have hp:put cur k [V.d x] = some (cur.set k (.d x)):=by
  unfold put
  rw [if_pos (by simp only [List.length_cons,List.length_nil]; omega),List.set_eq_take_append_cons_drop,if_pos hk]; simp
 have hg:=Mr_get (lo:=lo) (cur:=cur) hb
 simp [stv,V.cells,storeAt,hg,hp]
 simp [Hp.set,Mr]
theorem ix_row {b o n z:Nat} {cap:Option Nat} {kd:IntKind} {i:Nat} {h:Hp} (hi:i < n):idxv none z (.row b o n cap z) (.d (.int kd i)) h = some (.ptr b (o + i * z),h):=by
 simp [idxv,hi]
end
section
variable {E:Calls'} {T:FuncId -> Option QF} {val:FuncId -> Bool} {kd:IntKind}
theorem cmp_in {bs:List Blk} {b:Nat} (hb:b < bs.length) {zs:List Int} {cap cap2:Option Nat} (hn:zs.length < 2 ^ 62) {k0:Nat} (hk0:1 <= k0) (hk1:k0 < zs.length):∀ (m i k:Nat) (cur:List V) (lo:Nat),k0 + i + m = zs.length -> 1 <= i -> k < k0 + i -> cur.length = zs.length -> (∀ j (hj:j < zs.length),k <= j -> cur[j]? = some (iv kd zs[j])) →
 ∃ cur' lo',Cd E T val (.loop [0,3,4,5] (cmpB0 kd)) [(0,.row b 0 zs.length cap 1),(3,.d (i64 k)),(4,.row b k0 (zs.length - k0) cap2 1),(5,.d (i64 i))] (Mr bs b cur lo) =
  some (.exit 2,[(0,.row b 0 zs.length cap 1),(3,.d (i64 (k + chg (zs.drop (k0 + i - 1)):Nat)))],Mr bs b cur' lo') /\ cur'.length = zs.length /\ (lo' = lo \/ lo' = min lo b):=by
 intro m
 have key:=Cd_round (E:=E) (T:=T) (val:=val) [0,3,4,5] (cmpB0 kd)
 generalize Cd E T val (.loop [0,3,4,5] (cmpB0 kd)) = W at key ⊢
 induction m with
 | zero =>
  intro i k cur lo hi h1 hk hl hc
  have h0:chg (zs.drop (k0 + i - 1)) = 0:=by
   have:=chg_le (zs.drop (k0 + i - 1))
   simp only [List.length_drop] at this
   omega
  refine ⟨cur,lo,?_,hl,.inl rfl⟩
  rw [key,h0]
  simp [cmpB0,show ¬ ((i:Int) < ((zs.length - k0:Nat):Int)) from by omega]
 | succ m ih =>
  intro i k cur lo hi h1 hk hl hc
  have hlt:i < zs.length - k0:=by omega
  have e1:=hc (k0 + i) (by omega) (by omega)
  have e0:=hc (k0 + i - 1) (by omega) (by omega)
  have hd:=chg_drop (zs:=zs) (i:=k0 + i - 1) (by omega)
  have hs:k0 + i - 1 + 1 = k0 + i:=by omega
  simp only [hs] at hd
  rw [hd]
  have hw:=int_next (show i < zs.length by omega) hn
  have hwk:=int_next (show k < zs.length by omega) hn
  have hwm:IntKind.wrap .i64 ((i:Int) - 1) = ((i - 1:Nat):Int):=by rw [wrap64] <;> omega
  have i1:=fun h=>ix_row (b:=b) (o:=k0) (z:=1) (cap:=cap2) (kd:=.i64) (h:=h) hlt
  have i0:=fun h=>ix_row (b:=b) (o:=k0) (z:=1) (cap:=cap2) (kd:=.i64) (h:=h) (show i - 1 < zs.length - k0 by omega)
  have ik:=fun h=>ix_row (b:=b) (o:=0) (z:=1) (cap:=cap) (kd:=.i64) (h:=h) (show k < zs.length by omega)
  simp only [Nat.mul_one,show k0 + (i - 1) = k0 + i - 1 by omega,Nat.zero_add] at i1 i0 ik
  have l1:=Mr_ld (lo:=lo) hb e1
  have l0:=Mr_ld (lo:=lo) hb e0
  generalize zs[k0 + i]'(by omega) = y at *
  generalize zs[k0 + i - 1]'(by omega) = x at *
  by_cases hxy:x = y
  · obtain ⟨cur',lo',k1,k2,k3⟩:=ih (i + 1) k cur lo (by omega) (by omega) (by omega) hl hc
    refine ⟨cur',lo',?_,k2,k3⟩
    rw [key]
    simp only [hxy,if_true,Nat.zero_add]
    simp only [show k0 + (i + 1) - 1 = k0 + i by omega] at k1
    subst hxy
    simp [cmpB0,i1,i0,l1,l0,iv,hw,hwm,show ((i:Int) < ((zs.length - k0:Nat):Int)) from by omega,-ldv_ptr]
    simpa using k1
  · have st:=Mr_st (lo:=lo) (x:=.int kd y) hb (show k < cur.length by omega)
    obtain ⟨cur',lo',k1,k2,k3⟩:=ih (i + 1) (k + 1) (cur.set k (.d (.int kd y))) (min lo b) (by omega) (by omega) (by omega) (by simpa using hl) (by
     intro j hj hkj
     rw [List.getElem?_set_ne (by omega)]
     exact hc j hj (by omega))
    refine ⟨cur',lo',?_,k2,by rcases k3 with k3 | k3 <;> omega⟩
    rw [key]
    simp only [hxy,if_false]
    simp only [show k0 + (i + 1) - 1 = k0 + i by omega] at k1
    have hyx:¬ y = x:=fun h=>hxy h.symm
    simp [cmpB0,i1,i0,ik,l1,l0,st,iv,hw,hwk,hwm,hyx,show ((i:Int) < ((zs.length - k0:Nat):Int)) from by omega,-ldv_ptr,-stv_ptr]
    rw [show ((k:Int) + (1 + (chg (zs.drop (k0 + i)):Int))) = ((k + 1 + chg (zs.drop (k0 + i)):Nat):Int) by omega]
    simpa using k1
theorem cmp_sl {h:Hp} {ev:X -> V} {b n:Nat} {cap:Option Nat} {x:X} {k:Nat} (hx:ev x = .d (i64 k)) (hk:k < n) (h1:1 <= k):sliceE h ev .sl 1 (.row b 0 n cap 1) (some x) none none = some (.row b k (n - k) (cap.map (· - k)) 1):=by
 simp only [sliceE,boundE,hx]
 rw [if_pos (by omega)]
 simp only [Int.toNat_natCast]
 rw [if_pos ⟨by omega,by omega,trivial⟩,if_neg (by omega),if_pos hk]; simp
theorem cmp_clr {C:Calls'} {bs:List Blk} {b lo:Nat} {cur:List V} (hb:b < bs.length) {n k:Nat} {cap:Option Nat} {e:EA} {x:X} {zero:V} (he:x.ea e = .row b k (n - k) cap 1) (hc:cur.length = n) (hk:k < n) :
 ∃ cur',cur'.length = n /\ opE C (.clear 1 [zero] x) (X.ea e) (Mr bs b cur lo) = some (.undef,Mr bs b cur' (min lo b)):=by
 have hr:((List.replicate (n - k) [zero]).flatten).length = n - k:=by simp
 have hp:put cur k (List.replicate (n - k) [zero]).flatten = some (cur.take k ++ (List.replicate (n - k) [zero]).flatten ++ cur.drop (k + (n - k))):=by
  unfold put
  rw [if_pos (by rw [hr]; omega),hr]
 refine ⟨cur.take k ++ (List.replicate (n - k) [zero]).flatten ++ cur.drop (k + (n - k)),by simp only [List.length_append,hr,List.length_take,List.length_drop]; omega,?_⟩
 have hne:¬ (n - k) * 1 = 0:=by omega
 simp only [opE,he,if_true,get_eq,Mr_get hb,if_neg hne,hp]
 simp [Hp.set,Mr]
theorem cmp_out {bs:List Blk} {b lo:Nat} (hb:b < bs.length) {zs:List Int} {cap:Option Nat} (hn:zs.length < 2 ^ 62):∀ (m k:Nat),k + m = zs.length -> 1 <= k →
 ∃ cur' lo',(Cd E T val (.loop [0,3] (cmpB1 kd)) [(0,.row b 0 zs.length cap 1),(3,.d (i64 k))] (Mr bs b (zs.map (iv kd)) lo) = some (.ret,[(2,.row b 0 (k + chg (zs.drop (k - 1))) cap 1)],Mr bs b cur' lo') /\ cur'.length = zs.length /\ lo' = min lo b ∨
  Cd E T val (.loop [0,3] (cmpB1 kd)) [(0,.row b 0 zs.length cap 1),(3,.d (i64 k))] (Mr bs b (zs.map (iv kd)) lo) = some (.exit 0,[(0,.row b 0 zs.length cap 1)],Mr bs b (zs.map (iv kd)) lo) /\ k + chg (zs.drop (k - 1)) = zs.length):=by
 intro m
 have key:=Cd_round (E:=E) (T:=T) (val:=val) [0,3] (cmpB1 kd)
 generalize Cd E T val (.loop [0,3] (cmpB1 kd)) = W at key ⊢
 induction m with
 | zero =>
  intro k hk h1
  have h0:chg (zs.drop (k - 1)) = 0:=by
   have:=chg_le (zs.drop (k - 1))
   simp only [List.length_drop] at this
   omega
  refine ⟨[],0,.inr ⟨?_,by omega⟩⟩
  rw [key]
  simp [cmpB1,show ¬ ((k:Int) < (zs.length:Int)) from by omega]
 | succ m ih =>
  intro k hk h1
  have hlt:k < zs.length:=by omega
  have e1:(zs.map (iv kd))[k]? = some (iv kd zs[k]):=by simp [hlt]
  have e0:(zs.map (iv kd))[k - 1]? = some (iv kd (zs[k - 1]'(by omega))):=by rw [List.getElem?_map,List.getElem?_eq_getElem (show k - 1 < zs.length by omega)]; rfl
  have hd:=chg_drop (zs:=zs) (i:=k - 1) (by omega)
  have hs:k - 1 + 1 = k:=by omega
  simp only [hs] at hd
  have hw:=int_next hlt hn
  have hwm:IntKind.wrap .i64 ((k:Int) - 1) = ((k - 1:Nat):Int):=by rw [wrap64] <;> omega
  have i1:=fun h=>ix_row (b:=b) (o:=0) (z:=1) (cap:=cap) (kd:=.i64) (h:=h) hlt
  have i0:=fun h=>ix_row (b:=b) (o:=0) (z:=1) (cap:=cap) (kd:=.i64) (h:=h) (show k - 1 < zs.length by omega)
  simp only [Nat.mul_one,Nat.zero_add] at i1 i0
  have l1:=Mr_ld (lo:=lo) hb e1
  have l0:=Mr_ld (lo:=lo) hb e0
  have hin:=cmp_in (E:=E) (T:=T) (val:=val) (kd:=kd) hb (zs:=zs) (cap:=cap) (cap2:=cap.map (· - k)) hn h1 hlt (zs.length - k - 1) 1 k (zs.map (iv kd)) lo (by omega) (by omega) (by omega) (by simp) (fun j hj _=>by simp [hj])
  have hcl:=chg_le (zs.drop k)
  simp only [List.length_drop] at hcl
  rw [hd]
  generalize zs[k]'(by omega) = y at *
  generalize zs[k - 1]'(by omega) = x at *
  by_cases hxy:x = y
  · obtain ⟨cur',lo',k1,k2,k3⟩:=hin
    simp only [show k + 1 - 1 = k by omega] at k1
    have hK:k + chg (zs.drop k) < zs.length:=by omega
    generalize hKe:k + chg (zs.drop k) = K at *
    obtain ⟨cur2,c1,c2⟩:=cmp_clr (C:=Sm E T val) (lo:=lo') hb (cur:=cur') (e:=[(56,.row b K (zs.length - K) (cap.map (· - K)) 1),(55,.d (i64 K)),(54,.row b 0 zs.length cap 1),(0,.row b 0 zs.length cap 1),(3,.d (i64 K))]) (x:=.t 56) (n:=zs.length) (k:=K) (cap:=cap.map (· - K)) (zero:=.d (.int kd 0)) (by simp) k2 hK
    have sl1:=fun h=>cmp_sl (h:=h) (ev:=X.ea [(27,.d (i64 k)),(26,.row b 0 zs.length cap 1),(25,.d (.bool true)),(24,iv kd x),(23,.ptr b (k - 1)),(22,.d (i64 (k - 1:Nat))),(21,.d (i64 k)),(20,.row b 0 zs.length cap 1),(19,iv kd y),(18,.ptr b k),(17,.d (i64 k)),(16,.row b 0 zs.length cap 1),(13,.d (.bool true)),(12,.d (i64 zs.length)),(11,.row b 0 zs.length cap 1),(10,.d (i64 k)),(0,.row b 0 zs.length cap 1),(3,.d (i64 k))]) (x:=.t 27) (b:=b) (n:=zs.length) (cap:=cap) (k:=k) (by simp) hlt h1
    have sl2:=fun h=>cmp_sl (h:=h) (ev:=X.ea [(55,.d (i64 K)),(54,.row b 0 zs.length cap 1),(0,.row b 0 zs.length cap 1),(3,.d (i64 K))]) (x:=.t 55) (b:=b) (n:=zs.length) (cap:=cap) (k:=K) (by simp) hK (by omega)
    have sl3:=fun h=>slice_hi (h:=h) (ev:=X.ea [(58,.d (i64 K)),(57,.row b 0 zs.length cap 1),(56,.row b K (zs.length - K) (cap.map (· - K)) 1),(55,.d (i64 K)),(54,.row b 0 zs.length cap 1),(0,.row b 0 zs.length cap 1),(3,.d (i64 K))]) (x:=.t 58) (b:=b) (z:=1) (len:=zs.length) (cap:=cap) (n:=K) (by simp) (by omega)
    refine ⟨cur2,min lo' b,.inl ⟨?_,c1,by rcases k3 with k3 | k3 <;> omega⟩⟩
    rw [key]
    simp only [hxy,if_true,Nat.zero_add]
    subst hxy
    simp [iv] at sl1
    simp [cmpB1,i1,i0,l1,l0,iv,hwm,hlt,sl1,-ldv_ptr]
    rw [Cd_keep]
    simp at k1
    simp [k1,sl2]
    rw [c2]
    simp [sl3,hKe]
  · obtain ⟨cur',lo',hh⟩:=ih (k + 1) (by omega) (by omega)
    simp only [show k + 1 - 1 = k by omega] at hh
    refine ⟨cur',lo',?_⟩
    rw [key]
    have hyx:¬ y = x:=fun h=>hxy h.symm
    have hadd:k + (1 + chg (zs.drop k)) = k + 1 + chg (zs.drop k):=by omega
    simp only [hxy,if_false,hadd]
    simp [cmpB1,i1,i0,l1,l0,iv,hwm,hw,hlt,hyx,-ldv_ptr]
    simpa using hh
theorem S_compact {id:FuncId} (ht:T id = some (cmpQ kd)) (hv:val id = false) {zs:List Int} {b:Nat} {cap:Option Nat} {h:Hp} (hb:getB h.bs b = some (zs.map (iv kd))) (hn:zs.length < 2 ^ 62) :
 ∃ h',Sm E T val id [.row b 0 zs.length cap 1] h = some (.row b 0 (cmpN zs) cap 1,h') /\ (h' = h \/ ∃ cur,h' = ⟨h.bs.set b (.cells cur),min h.low b⟩):=by
 have hbl:=getB_len hb
 have hset:h.bs.set b (.cells (zs.map (iv kd))) = h.bs:=by
  apply List.ext_getElem?
  intro i
  by_cases hi:b = i
  · subst hi
    rw [List.getElem?_set_self hbl]
    unfold getB at hb
    split at hb
    · rename_i hh; cases hb; exact hh.symm
    · cases hb
  · rw [List.getElem?_set_ne hi]
 have hM:(⟨h.bs,h.bs.length⟩:Hp) = Mr h.bs b (zs.map (iv kd)) h.bs.length:=by simp [Mr,hset]
 rw [Sm_ref ht hv,hM]
 by_cases h2:zs.length < 2
 · refine ⟨h,?_,.inl rfl⟩
   have:cmpN zs = zs.length:=by
    match zs,h2 with
    | [],_=>rfl
    | [x],_=>rfl
    | _ :: _ :: _,h2=>simp at h2; omega
   simp [cmpQ,Bd_mk,show ((zs.length:Int) < 2) from by omega,this,V.under,hbl]
   simp [Mr]
 · have hne:zs ≠ []:=by rintro rfl; simp at h2
   obtain ⟨cur',lo',hh | hh⟩:=cmp_out (E:=E) (T:=T) (val:=val) (kd:=kd) (lo:=h.bs.length) (cap:=cap) hbl hn (zs.length - 1) 1 (by omega) (by omega)
   · obtain ⟨k1,k2,k3⟩:=hh
     have hlo:lo' = b:=by omega
     subst hlo
     refine ⟨_,?_,.inr ⟨cur',rfl⟩⟩
     simp at k1
     simp [cmpQ,Bd_mk,show ¬ ((zs.length:Int) < 2) from by omega]
     rw [Cd_keep]
     simp [k1,cmpN,hne,V.under,hbl]
     simp [Mr,show ¬ (h.bs.length <= lo') from by omega]
   · obtain ⟨k1,k2⟩:=hh
     refine ⟨h,?_,.inl rfl⟩
     simp at k1 k2
     simp [cmpQ,Bd_mk,show ¬ ((zs.length:Int) < 2) from by omega]
     rw [Cd_keep]
     simp [k1,cmpN,hne,V.under,hbl,k2]
     simp [Mr]
end
end Go.Proofs.YthkeklemhcfbcaaGreat
namespace Go.Proofs.YthkeklemhcfbcaaGreat
noncomputable def E1:Calls':=fun f args h=>match Nat.beq f 203 with
 | true=>sortE args h
 | false=>Sm (fun _ _ _=>none) TT valT f args h
def tabP:List (Nat × QF):=[(163,q385),(202,q372),(205,q445)]
def TP:FuncId -> Option QF:=lookT tabP
def valP (f:FuncId):Bool:=Nat.beq 163 f
theorem p385:TP 163 = some q385:=rfl
theorem p372:TP 202 = some (cloneQ 1 8 [(.d (.int .i64 0))]):=by kernel_rfl
theorem p445:TP 205 = some (cmpQ .i64):=by kernel_rfl
theorem p443:TP 203 = none:=rfl
theorem p438:TP 197 = none:=rfl
theorem p444:TP 204 = none:=rfl
theorem e443 {args:List V} {h:Hp}:Sm E1 TP valP 203 args h = sortE args h:=by rw [Sm_ext p443]; rfl
theorem e438 {args:List V} {h:Hp}:Sm E1 TP valP 197 args h = Sm (fun _ _ _=>none) TT valT 197 args h:=by rw [Sm_ext p438]; rfl
theorem e444 {args:List V} {h:Hp}:Sm E1 TP valP 204 args h = Sm (fun _ _ _=>none) TT valT 204 args h:=by rw [Sm_ext p444]; rfl
variable {E:Calls'}
def portMay (n:Int):Bool:=decide (n >= 1) && decide (n <= 65535)
theorem u474:TT 257 = some (anyQ 296):=t474
theorem u497:TT 296 = some idx1Q:=t497
theorem u475:TT 258 = some not1Q:=t475
theorem u444:TT 204 = some (allQ 257 258):=t444
theorem S444 (s:Sl Int) (hs:short s) (h:Hp):Sm E TT valT 204 [.d (i64 6),.d (s.d intC),.fn 114 []] h = some (bl (decide ((s.l.length:Int) <= 6) && s.l.all portMay),h) :=
 S_all1 (cell:=fun n=>i64 n) u497 v497 u474 v474 u475 v475 u444 v444 hs (fun e he h=>S299 e h) h
def targetMay (t:Target):Bool:=(termsMay t.methods && (termsMay t.paths && (termsMay t.hosts && true))) && (decide ((t.ports.l.length:Int) <= 6) && t.ports.l.all portMay) && ((cmpN (sortZ t.ports.l):Int) == (t.ports.l.length:Int))
theorem S_compact_nil {T:FuncId -> Option QF} {val:FuncId -> Bool} {kd:IntKind} {id:FuncId} (ht:T id = some (cmpQ kd)) (hv:val id = false) (h:Hp):Sm E T val id [.d (.slice true [])] h = some (.d (.slice true []),h):=by
 rw [Sm_ref ht hv]
 simp [cmpQ,Bd_mk,V.under]
theorem frz_rows {h:Hp} {b n:Nat} {cap:Option Nat} {ds:List D} (hb:getB h.bs b = some (ds.map .d)) (hn:n = ds.length):frz h (.row b 0 n cap 1) = some (.d (.slice false (ds.map fun d=>[d]))):=by
 have h1:getB h.bs b = some (flat (ds.map fun d=>[d]) ++ []):=by
  have hf:∀ l:List D,(l.map fun d=>[d]).flatten = l:=by
   intro l
   induction l with
   | nil=>rfl
   | cons d l ih=>simp only [List.map_cons,List.flatten_cons,ih]; rfl
  rw [hb,List.append_nil,flat,hf]
 have:=dataV_row (h:=h) (k:=7) (b:=b) (n:=n) (cap:=cap) (z:=1) (es:=ds.map fun d=>[d]) (rest:=[]) (by simp) (by simpa using hn) h1
 simp only [frz,frz1,this]
def rowsT (t:Target):Bool:=termsMay t.methods && (termsMay t.paths && (termsMay t.hosts && true))
def portsT (t:Target):Bool:=decide ((t.ports.l.length:Int) <= 6) && t.ports.l.all portMay
theorem R438 (t:Target) (ht:t.wf big) (b:Nat) (cap:Option Nat) (h:Hp) (hb:getB h.bs b = some [.d (t.methods.d Term.c),.d (t.paths.d Term.c),.d (t.hosts.d Term.c)]):Sm E TT valT 197 [.row b 0 3 cap 1] h = some (bl (rowsT t),h):=by
 refine S438 [t.methods,t.paths,t.hosts] (by simp) ?_ _ h (frz_rows (ds:=[t.methods.d Term.c,t.paths.d Term.c,t.hosts.d Term.c]) hb rfl)
 · intro s hs
   simp only [List.mem_cons,List.not_mem_nil,or_false] at hs
   rcases hs with rfl | rfl | rfl
   · exact ⟨ht.2.1.1,fun x hx=>(ht.2.1.2 x hx).2⟩
   · exact ⟨ht.2.2.1.1,fun x hx=>(ht.2.2.1.2 x hx).2⟩
   · exact ⟨ht.2.2.2.1,fun x hx=>(ht.2.2.2.2 x hx).2⟩
theorem S385_nil (t:Target) (ht:t.wf big) (hl:t.ports.l = []) (hnl:t.ports.nl = true) (h:Hp):Sm E1 TP valP 163 [ag t.c] h = some (bl (targetMay t),h):=by
 have hp:t.ports.d intC = .slice true []:=by simp [Sl.d,hl,hnl]
 have c1:=fun h=>S_cloneR (E:=E1) (T:=TP) (val:=valP) p372 rfl (by decide) (by decide) (nl:=true) (es:=[]) (by simp) (by simp) h
 have c3:=fun h=>S_compact_nil (E:=E1) (T:=TP) (val:=valP) p445 rfl h
 have c2:∀ h,sortE [.d (.slice true [])] h = some (.tup [],h):=fun _=>rfl
 have r1:=fun b cap h hb=>R438 (E:=fun _ _ _=>none) t ht b cap h hb
 have a1:=fun h=>S444 (E:=fun _ _ _=>none) t.ports ht.1.1 h
 rw [← hp] at c1
 have hlen:t.ports.l.length = 0:=by rw [hl]; rfl
 rw [Sm_v p385 rfl]
 have hT:targetMay t = (rowsT t && portsT t && true):=by simp [targetMay,rowsT,portsT,hl,cmpN,sortZ]
 rw [hT]
 simp [Bd_mk,q385,c1,cloneR,e443,c2]
 cases hR:rowsT t <;> cases hP:portsT t
 all_goals
  simp only [hR] at r1
  have a2:=hP
  unfold portsT at a2
  simp only [a2] at a1
  simp (decide:=true) [openA,opDE_call,e438,e444,r1,a1,c3,fillsE,noTr,hlen]
theorem flat_ints (l:List Int):flat (l.map intC) = intsV l:=by
 simp only [flat,intsV]
 induction l with
 | nil=>rfl
 | cons x l ih=>simp only [List.map_cons,List.flatten_cons,List.map_append,ih]; rfl
theorem ints_mapM (l:List Int):(intsV l).mapM asInt = some l:=by
 induction l with
 | nil=>rfl
 | cons x l ih =>
  simp only [intsV,List.map_cons,List.mapM_cons] at ih ⊢
  simp [ih,asInt]
theorem sortZ_len (l:List Int):(sortZ l).length = l.length:=List.length_mergeSort _
theorem S385_empty (t:Target) (ht:t.wf big) (hl:t.ports.l = []) (hnl:t.ports.nl = false) (h:Hp):Sm E1 TP valP 163 [ag t.c] h = some (bl (targetMay t),h):=by
 have hp:t.ports.d intC = .slice false []:=by simp [Sl.d,hl,hnl]
 have c1:=fun h=>S_cloneR (E:=E1) (T:=TP) (val:=valP) p372 rfl (by decide) (by decide) (nl:=false) (es:=[]) (by simp) (by simp) h
 have c3:=S_compact (E:=E1) (T:=TP) (val:=valP) p445 rfl (zs:=[]) (b:=1) (cap:=some 0) (h:=⟨[.cells (t.c.map .d),.cells [],.cells [.d (t.methods.d Term.c),.d (t.paths.d Term.c),.d (t.hosts.d Term.c)]],3⟩) (by simp) (by simp)
 have c2:∀ b c h,sortE [.row b 0 0 c 1] h = some (.tup [],h):=fun _ _ _=>rfl
 have r1:=fun b cap h hb=>R438 (E:=fun _ _ _=>none) t ht b cap h hb
 have a1:=fun h=>S444 (E:=fun _ _ _=>none) t.ports ht.1.1 h
 rw [← hp] at c1
 have hlen:t.ports.l.length = 0:=by rw [hl]; rfl
 rw [Sm_v p385 rfl]
 have hT:targetMay t = (rowsT t && portsT t && true):=by simp [targetMay,rowsT,portsT,hl,cmpN,sortZ]
 rw [hT]
 obtain ⟨h',c3,c4⟩:=c3
 simp [cmpN] at c3
 simp [Bd_mk,q385,c1,cloneR,e443,c2]
 cases hR:rowsT t <;> cases hP:portsT t
 all_goals
  simp only [hR] at r1
  have a2:=hP
  unfold portsT at a2
  simp only [a2] at a1
  rcases c4 with rfl | ⟨cur,rfl⟩ <;> first | (simp (decide:=true) [openA,opDE_call,e438,e444,r1,a1,c3,fillsE,noTr,hlen]; done) | (simp (decide:=true) [openA,opDE_call,e438,e444,r1,a1,c3,fillsE,noTr,hlen]; rw [if_pos (apart_drop (by rfl))]; simp)
theorem S385_some (t:Target) (ht:t.wf big) (hl:t.ports.l ≠ []) (h:Hp):Sm E1 TP valP 163 [ag t.c] h = some (bl (targetMay t),h):=by
 have hnl:t.ports.nl = false:=by
  cases hh:t.ports.nl with
  | false=>rfl
  | true=>exact absurd (ht.1.1.2 hh) hl
 have hsl:=sortZ_len t.ports.l
 have hne0:¬ t.ports.l.length = 0:=by simpa using hl
 have hlb:t.ports.l.length <= big:=ht.1.1.1
 have hp:t.ports.d intC = .slice false (t.ports.l.map intC):=by simp [Sl.d,hnl]
 have c1:∀ h,Sm E1 TP valP 202 [.d (t.ports.d intC)] h = some (.row (h.bs.length + 1) 0 t.ports.l.length none 1,⟨h.bs ++ [.cells [],.cells (intsV t.ports.l)],min h.low h.bs.length⟩):=by
  intro h
  have:=S_cloneR (E:=E1) (T:=TP) (val:=valP) p372 rfl (by decide) (by decide) (nl:=false) (es:=t.ports.l.map intC) (by simp [intC]) (by simpa using hlb) h
  rw [hp,this]
  have hf:=flat_ints t.ports.l
  revert hf hl
  cases t.ports.l with
  | nil=>intro hl; exact absurd rfl hl
  | cons x l =>
   intro _ hf
   simp only [List.map_cons] at hf
   simp [cloneR,hf]
 have c2:∀ lo,sortE [.row 2 0 t.ports.l.length none 1] ⟨[.cells (t.c.map .d),.cells [],.cells (intsV t.ports.l)],lo⟩ = some (.tup [],⟨[.cells (t.c.map .d),.cells [],.cells (intsV (sortZ t.ports.l))],min lo 2⟩):=by
  intro lo
  simp only [sortE,if_neg hne0,get_eq,getB_succ,getB_zero,ints_mapM]
  rw [if_pos ⟨trivial,hlb⟩]
  rfl
 have c3:=S_compact (E:=E1) (T:=TP) (val:=valP) p445 rfl (zs:=sortZ t.ports.l) (b:=2) (cap:=none) (h:=⟨[.cells (t.c.map .d),.cells [],.cells (intsV (sortZ t.ports.l)),.cells [.d (t.methods.d Term.c),.d (t.paths.d Term.c),.d (t.hosts.d Term.c)]],4⟩) (by simp; rfl) (by rw [hsl]; exact Nat.lt_of_le_of_lt hlb (by decide))
 have r1:=fun b cap h hb=>R438 (E:=fun _ _ _=>none) t ht b cap h hb
 have a1:=fun h=>S444 (E:=fun _ _ _=>none) t.ports ht.1.1 h
 rw [Sm_v p385 rfl]
 have hT:targetMay t = (rowsT t && portsT t && ((cmpN (sortZ t.ports.l):Int) == (t.ports.l.length:Int))):=rfl
 rw [hT]
 obtain ⟨h',c3,c4⟩:=c3
 rw [hsl] at c3
 generalize cmpN (sortZ t.ports.l) = K at *
 generalize intsV (sortZ t.ports.l) = Z at *
 generalize intsV t.ports.l = Z0 at *
 simp [Bd_mk,q385,c1,e443,c2]
 cases hR:rowsT t <;> cases hP:portsT t
 all_goals
  simp only [hR] at r1
  have a2:=hP
  unfold portsT at a2
  simp only [a2] at a1
  rcases c4 with rfl | ⟨cur,rfl⟩ <;> first | (simp (decide:=true) [openA,opDE_call,e438,e444,r1,a1,c3,fillsE,noTr]; done) | (simp (decide:=true) [openA,opDE_call,e438,e444,r1,a1,c3,fillsE,noTr]; rw [if_pos (apart_drop (by rfl))]; simp)
theorem S385 (t:Target) (ht:t.wf big) (h:Hp):Sm E1 TP valP 163 [ag t.c] h = some (bl (targetMay t),h):=by
 by_cases hl:t.ports.l = []
 · cases hnl:t.ports.nl with
   | true=>exact S385_nil t ht hl hnl h
   | false=>exact S385_empty t ht hl hnl h
 · exact S385_some t ht hl h
end Go.Proofs.YthkeklemhcfbcaaGreat
namespace Go.Proofs.YthkeklemhcfbcaaGreat
variable {E:Calls'}
theorem u469:TT 252 = some (anyQ 286):=t469
theorem u487:TT 286 = some (idxQ 2):=t487
theorem u470:TT 253 = some (notQ 2):=t470
theorem u439:TT 198 = some (allQ 252 253):=t439
theorem u436:TT 195 = some (anyQ 248):=t436
theorem u465:TT 248 = some (idxQ 3):=t465
theorem u437:TT 196 = some (notQ 3):=t437
theorem u382:TT 160 = some (allQ 195 196):=t382
theorem u441:TT 200 = some (anyQ 255):=t441
theorem u472:TT 255 = some (idxQ 4):=t472
theorem u442:TT 201 = some (notQ 4):=t442
theorem u384:TT 162 = some (allQ 200 201):=t384
theorem u446:TT 206 = some (anyQ 259):=t446
theorem u476:TT 259 = some (idxQ 2):=t476
theorem u447:TT 207 = some (notQ 2):=t447
theorem u386:TT 164 = some (allQ 206 207):=t386
theorem u380:TT 158 = some (anyQ 194):=t380
theorem u435:TT 194 = some (idxQ 3):=t435
theorem u381:TT 159 = some (notQ 3):=t381
theorem u341:TT 107 = some (allQ 158 159):=t341
theorem n385:TT 163 = none:=by kernel_rfl
def netsMay (s:Sl Cidr):Bool:=decide ((s.l.length:Int) <= 6) && s.l.all cidrMay
theorem S439 (s:Sl Cidr) (hs:short s) (h:Hp):Sm E TT valT 198 [.d (i64 6),.d (s.d Cidr.c),.fn 199 []] h = some (bl (netsMay s),h) :=
 S_all (cells:=Cidr.c) u487 v487 u469 v469 u470 v470 u439 v439 (fun _=>rfl) hs (fun e he h=>S440 e h) h
def sourceMay (s:Source):Bool:=(termsMay s.names && (termsMay s.spaces && true)) && netsMay s.nets
theorem S383 (s:Source) (hs:s.wf big) (h:Hp):Sm E TT valT 161 [ag s.c] h = some (bl (sourceMay s),h):=by
 have r1:∀ b cap h,getB h.bs b = some [.d (s.names.d Term.c),.d (s.spaces.d Term.c)] -> Sm E TT valT 197 [.row b 0 2 cap 1] h = some (bl ([s.names,s.spaces].all termsMay),h):=by
  intro b cap h hb
  refine S438 [s.names,s.spaces] (by simp) ?_ _ h (frz_rows (ds:=[s.names.d Term.c,s.spaces.d Term.c]) hb rfl)
  intro x hx
  simp only [List.mem_cons,List.not_mem_nil,or_false] at hx
  rcases hx with rfl | rfl
  · exact ⟨hs.1.1,fun x hx=>(hs.1.2 x hx).2⟩
  · exact ⟨hs.2.1.1,fun x hx=>(hs.2.1.2 x hx).2⟩
 have a1:=fun h=>S439 (E:=E) s.nets hs.2.2.1 h
 have hT:sourceMay s = ([s.names,s.spaces].all termsMay && netsMay s.nets):=rfl
 rw [hT]
 generalize [s.names,s.spaces].all termsMay = A at *
 generalize netsMay s.nets = B at *
 rw [Sm_v t383 v383]
 cases A <;> simp (decide:=true) [Bd_mk,q383,openA,opDE_call,r1,a1,fillsE,noTr]
def whenMay (w:When):Bool:=headMay w.head && (termsMay w.terms && true) && decide ((w.terms.l.length:Int) > 0)
theorem S387 (w:When) (hw:w.wf big) (h:Hp):Sm E TT valT 165 [ag w.c] h = some (bl (whenMay w),h):=by
 have r1:∀ b cap h,getB h.bs b = some [.d (w.terms.d Term.c)] -> Sm E TT valT 197 [.row b 0 1 cap 1] h = some (bl ([w.terms].all termsMay),h):=by
  intro b cap h hb
  refine S438 [w.terms] (by simp) ?_ _ h (frz_rows (ds:=[w.terms.d Term.c]) hb rfl)
  intro x hx
  simp only [List.mem_cons,List.not_mem_nil,or_false] at hx
  subst hx
  exact ⟨hw.2.1,fun x hx=>(hw.2.2 x hx).2⟩
 have a1:=fun h=>S448 (E:=E) w.head hw.1 h
 have hT:whenMay w = (headMay w.head && [w.terms].all termsMay && decide ((w.terms.l.length:Int) > 0)):=rfl
 rw [hT]
 generalize [w.terms].all termsMay = A at *
 generalize headMay w.head = B at *
 rw [Sm_v t387 v387]
 cases B <;> cases A <;> simp (decide:=true) [Bd_mk,q387,openA,opDE_call,r1,a1,fillsE,noTr]
def ruleMay (r:Rule):Bool:=(decide ((r.frm.l.length:Int) <= 3) && r.frm.l.all sourceMay) && (decide ((r.to.l.length:Int) <= 3) && r.to.l.all targetMay) && (decide ((r.whn.l.length:Int) <= 3) && r.whn.l.all whenMay)
section
variable (h385:∀ t:Target,t.wf big -> ∀ h,E 163 [ag t.c] h = some (bl (targetMay t),h))
include h385
theorem S385' (t:Target) (ht:t.wf big) (h:Hp):Sm E TT valT 163 [ag t.c] h = some (bl (targetMay t),h):=by rw [Sm_ext n385]; exact h385 t ht h
theorem S342 (r:Rule) (hr:r.wf big) (h:Hp):Sm E TT valT 108 [ag r.c] h = some (bl (ruleMay r),h):=by
 have k1:=fun h=>S_all (E:=E) (T:=TT) (val:=valT) (cells:=Source.c) u465 v465 u436 v436 u437 v437 u382 v382 (fun _=>rfl) (s:=r.frm) hr.1.1 (m:=3) (f:=161) (p:=sourceMay) (fun e he h=>S383 e (hr.1.2 e he) h) h
 have k2:=fun h=>S_all (E:=E) (T:=TT) (val:=valT) (cells:=Target.c) u472 v472 u441 v441 u442 v442 u384 v384 (fun _=>rfl) (s:=r.to) hr.2.1.1 (m:=3) (f:=163) (p:=targetMay) (fun e he h=>S385' h385 e (hr.2.1.2 e he) h) h
 have k3:=fun h=>S_all (E:=E) (T:=TT) (val:=valT) (cells:=When.c) u476 v476 u446 v446 u447 v447 u386 v386 (fun _=>rfl) (s:=r.whn) hr.2.2.1 (m:=3) (f:=165) (p:=whenMay) (fun e he h=>S387 e (hr.2.2.2 e he) h) h
 unfold ruleMay
 generalize (decide ((r.frm.l.length:Int) <= 3) && r.frm.l.all sourceMay) = A at *
 generalize (decide ((r.to.l.length:Int) <= 3) && r.to.l.all targetMay) = B at *
 generalize (decide ((r.whn.l.length:Int) <= 3) && r.whn.l.all whenMay) = C at *
 rw [Sm_v t342 v342]
 cases A <;> cases B <;> simp (decide:=true) [Bd_mk,q342,openA,opDE_call,k1,k2,k3,noTr]
def polMay (p:Pol):Bool:=decide (p.id >= 1) && decide (p.id <= 4611686018427387903) && (eqS p.ns ⟨#[]⟩ || labelMay p.ns) && decide (p.service <= 4611686018427387903) && ((p.deny == 0) || (p.deny == 1)) && (decide ((p.rules.l.length:Int) <= 6) && p.rules.l.all ruleMay)
theorem S263 (p:Pol) (hp:p.wf big) (h:Hp):Sm E TT valT 60 [ag p.c] h = some (bl (polMay p),h):=by
 have k1:=fun h=>S_all (E:=E) (T:=TT) (val:=valT) (cells:=Rule.c) u435 v435 u380 v380 u381 v381 u341 v341 (fun _=>rfl) (s:=p.rules) hp.2.2.2.2.1 (m:=6) (f:=108) (p:=ruleMay) (fun e he h=>S342 h385 e (hp.2.2.2.2.2 e he) h) h
 have k2:=fun h=>S305 (E:=E) p.ns hp.2.1 h
 unfold polMay
 generalize (decide ((p.rules.l.length:Int) <= 6) && p.rules.l.all ruleMay) = A at *
 generalize labelMay p.ns = B at *
 have ho:eqS p.ns ⟨#[]⟩ = eqS p.ns ⟨#[]⟩:=rfl
 rw [Sm_v t263 v263]
 by_cases c1:p.id >= 1
 case neg=>simp (decide:=true) [Bd_mk,q263,openA,opDE_call,noTr,c1]
 by_cases c2:p.id <= 4611686018427387903
 case neg=>simp (decide:=true) [Bd_mk,q263,openA,opDE_call,noTr,c1,c2]
 cases c3:eqS p.ns ⟨#[]⟩
 case false =>
  cases B
  case false=>simp (decide:=true) [Bd_mk,q263,openA,opDE_call,noTr,c1,c2,c3,k2]
  by_cases c4:p.service <= 4611686018427387903
  case neg=>simp (decide:=true) [Bd_mk,q263,openA,opDE_call,noTr,c1,c2,c3,k2,c4]
  by_cases c5:p.deny = 0
  case pos=>simp (decide:=true) [Bd_mk,q263,openA,opDE_call,noTr,c1,c2,c3,k2,c4,c5,k1]
  by_cases c6:p.deny = 1 <;> simp (decide:=true) [Bd_mk,q263,openA,opDE_call,noTr,c1,c2,c3,k2,c4,c5,c6,k1]
 case true =>
  by_cases c4:p.service <= 4611686018427387903
  case neg=>simp (decide:=true) [Bd_mk,q263,openA,opDE_call,noTr,c1,c2,c3,k2,c4]
  by_cases c5:p.deny = 0
  case pos=>simp (decide:=true) [Bd_mk,q263,openA,opDE_call,noTr,c1,c2,c3,k2,c4,c5,k1]
  by_cases c6:p.deny = 1 <;> simp (decide:=true) [Bd_mk,q263,openA,opDE_call,noTr,c1,c2,c3,k2,c4,c5,c6,k1]
end
end Go.Proofs.YthkeklemhcfbcaaGreat
namespace Go.Proofs.YthkeklemhcfbcaaGreat
def risB (z:Nat):QC:=(.seq (.reg none [op 9 (.bin .lss (.t 8) (.t 7))]) (.seq (.cond (.t 9) .skip (.exit 0 [])) (.seq (.block 1 (.seq (.reg none [mv 10 8,mv 5 10]) (.seq (.reg (some [[],[0],[1,0],[2,1,0],[2,1,0],[2,1,0],[5,2,1,0],[4,6,5,2,1,0],[7,4,6,5,2,1,0],[3,8,7,4,6,5,2,1,0],[2,1,0],[2,1,0],[2,1,0],[11,12,2,1,0],[13,11,12,2,1,0],[10,14,13,11,12,9,3,8,7,4,6,5,2,1,0],[15,10,14,13,11,12,9,3,8,7,4,6,5,2,1,0],[16,15,10,14,13,11,12,9,3,8,7,4,6,5,2,1,0]]) [mv 11 5,op 12 (.bin .gtr (.t 11) (ci 0)),mv 13 12,ot 13 14 (.mov (.t 1)),ot 13 15 (.mov (.t 0)),ot 13 16 (.mov (.t 5)),ot 13 17 (.bin .sub (.t 16) (ci 1)),ot 13 18 (.idxA none z (.t 15) (.t 17)),ot 13 19 (.load false z (.t 18)),ot 13 20 (.call (.t 14) [.t 19]),ot 13 21 (.mov (.t 1)),ot 13 22 (.mov (.t 0)),ot 13 23 (.mov (.t 5)),ot 13 24 (.idxA none z (.t 22) (.t 23)),ot 13 25 (.load false z (.t 24)),ot 13 26 (.call (.t 21) [.t 25]),ot 13 27 (.bin .geq (.t 20) (.t 26)),op 28 (.pick (.t 13) (.t 27) (.c (.d (.bool false))))]) (.cond (.t 28) (.seq (.reg none [op 4 (.mov (.c (.d (.bool false))))]) (.ret [4])) .skip)))) (.reg none [op 29 (.bin .add (.t 8) (ci 1)),mv 8 29]))))
def risQ (z:Nat):QF:=⟨30,[.tmp 4],(.seq (.reg none [op 4 (.mov (.c (.d (.bool false))))]) (.seq (.seq (.reg none [mv 6 0,op 7 (.len false (.t 6)),op 8 (.mov (ci 0))]) (.block 0 (.loop [0,1,7,8] (risB z)))) (.seq (.reg none [op 4 (.mov (.c (.d (.bool true))))]) (.ret [4]))))⟩
def someQ (con:Nat):QF:=⟨8,[.tmp 4],(.seq (.reg none [op 4 (.mov (.c (.d (.bool false))))]) (.seq (.reg none [mv 5 0,mv 6 1,op 7 (.call (.c (.fn con [])) [.t 5,.t 6]),mv 4 7]) (.ret [4])))⟩
def risesL:List Int -> Bool
 | x :: y :: l=>decide (x < y) && risesL (y :: l)
 | _=>true
theorem risesL_drop {l:List Int} {i:Nat} (h:i + 1 < l.length):risesL (l.drop i) = (decide (l[i] < l[i + 1]) && risesL (l.drop (i + 1))):=by
 rw [List.drop_eq_getElem_cons (show i < l.length by omega),List.drop_eq_getElem_cons h]
 simp only [risesL]
theorem risesL_end {l:List Int} {i:Nat} (h:l.length <= i + 1):risesL (l.drop i) = true:=by
 have:(l.drop i).length <= 1:=by simp only [List.length_drop]; omega
 match l.drop i,this with
 | [],_=>rfl
 | [_],_=>rfl
 | _ :: _ :: _,h=>simp at h
theorem ix_data {α:Type} {cells:α -> List D} {z:Nat} (hz:∀ x,(cells x).length = z) {s:Sl α} {i:Nat} (hi:i < s.l.length) {kd:IntKind} {h:Hp}:idxv none z (.d (s.d cells)) (.d (.int kd i)) h = some (.eptr (cells s.l[i]) 0,h):=by
 simp [idxv,Sl.d,hi,hz]
section
variable {E:Calls'} {T:FuncId -> Option QF} {val:FuncId -> Bool}
theorem ris_loop {α:Type} {cells:α -> List D} {z:Nat} (hz:∀ x,(cells x).length = z) {s:Sl α} (hs:s.l.length < 2 ^ 62) {f:FuncId} {g:α -> Int} (hf:∀ e ∈ s.l,∀ h,Sm E T val f [ag (cells e)] h = some (.d (u64 (g e)),h)):∀ (m i:Nat),i + m = s.l.length -> 1 <= i →
 Cd E T val (.loop [0,1,7,8] (risB z)) [(0,.d (s.d cells)),(1,.fn f []),(7,.d (i64 s.l.length)),(8,.d (i64 i))] ⟨[],0⟩ =
  if risesL ((s.l.map g).drop (i - 1)) then some (.exit 0,[],⟨[],0⟩) else some (.ret,[(4,bl false)],⟨[],0⟩):=by
 intro m
 have key:=Cd_round (E:=E) (T:=T) (val:=val) [0,1,7,8] (risB z)
 generalize Cd E T val (.loop [0,1,7,8] (risB z)) = W at key ⊢
 induction m with
 | zero =>
  intro i hi h1
  rw [key,risesL_end (by simp; omega)]
  simp [risB,show ¬ ((i:Int) < s.l.length) from by omega]
 | succ m ih =>
  intro i hi h1
  have hlt:i < s.l.length:=by omega
  have hd:=risesL_drop (l:=s.l.map g) (i:=i - 1) (by simp; omega)
  have hs1:i - 1 + 1 = i:=by omega
  simp only [hs1,List.getElem_map] at hd
  have hp1:=fun h=>ix_data (cells:=cells) hz hlt (kd:=.i64) (h:=h)
  have hp0:=fun h=>ix_data (cells:=cells) hz (show i - 1 < s.l.length by omega) (kd:=.i64) (h:=h)
  have c1:=hf _ (List.getElem_mem hlt)
  have c0:=hf _ (List.getElem_mem (show i - 1 < s.l.length by omega))
  have hw:=int_next hlt hs
  have hwm:IntKind.wrap .i64 ((i:Int) - 1) = ((i - 1:Nat):Int):=by rw [wrap64] <;> omega
  have hpos:0 < i:=h1
  have hih:=ih (i + 1) (by omega) (by omega)
  simp only [show i + 1 - 1 = i by omega] at hih
  rw [key,hd]
  generalize s.l[i] = y at *
  generalize s.l[i - 1] = x at *
  have hsx:=sub_all (hz x)
  have hsy:=sub_all (hz y)
  by_cases hg:g x < g y
  · simp (decide:=true) [risB,hp1,hp0,hsx,hsy,hwm,hw,hpos,c0,c1,hlt,hg,openA,opDE_call,noTr,show ¬ (g x >= g y) from by omega]
    simpa using hih
  · simp (decide:=true) [risB,hp1,hp0,hsx,hsy,hwm,hw,hpos,c0,c1,hlt,hg,openA,opDE_call,noTr,show g x >= g y from by omega]
theorem S_rises {α:Type} {cells:α -> List D} {z:Nat} {id:FuncId} (ht:T id = some (risQ z)) (hv:val id = true) (hz:∀ x,(cells x).length = z) {s:Sl α} (hs:s.l.length < 2 ^ 62) {f:FuncId} {g:α -> Int} (hf:∀ e ∈ s.l,∀ h,Sm E T val f [ag (cells e)] h = some (.d (u64 (g e)),h)) (h:Hp) :
 Sm E T val id [.d (s.d cells),.fn f []] h = some (bl (risesL (s.l.map g)),h):=by
 rw [Sm_v ht hv]
 have hfr:frz h (.fn f []) = some (.fn f []):=rfl
 have key:=Cd_round (E:=E) (T:=T) (val:=val) [0,1,7,8] (risB z)
 have hl:=ris_loop (E:=E) (T:=T) (val:=val) hz hs hf
 simp [Bd_mk,risQ,hfr]
 rw [Cd_keep]
 simp only [keepA_cons,keepA_nil]
 simp
 generalize Cd E T val (.loop [0,1,7,8] (risB z)) = W at key hl ⊢
 by_cases h0:s.l = []
 · rw [key]
   simp [risB,h0,risesL,pureV]
 · have hpos:0 < s.l.length:=List.length_pos_iff.2 h0
   have h1:=hl (s.l.length - 1) 1 (by omega) (by omega)
   simp at h1
   have hp1:=fun h=>ix_data (cells:=cells) hz hpos (kd:=.i64) (h:=h)
   rw [key]
   have hw:=int_next hpos hs
   simp at hw
   simp (decide:=true) [risB,openA,noTr,hpos,hw,h1]
   cases risesL (s.l.map g) <;> simp [pureV]
theorem S_some {con id:FuncId} (ht:T id = some (someQ con)) (hv:val id = false) {v:V} {f:FuncId} {caps:List V} {b:Bool} {h:Hp} (hnu:nu v = some v) (hok:okV v = true) (hc:Sm E T val con [v,.fn f caps] ⟨h.bs,h.bs.length⟩ = some (bl b,⟨h.bs,h.bs.length⟩)) :
 Sm E T val id [v,.fn f caps] h = some (bl b,h):=by
 rw [Sm_ref ht hv]
 simp [someQ,Bd_mk,hnu,hok,hc,V.under]
end
end Go.Proofs.YthkeklemhcfbcaaGreat
namespace Go.Proofs.YthkeklemhcfbcaaGreat
variable {E:Calls'}
theorem S191 (p:Pod) (h:Hp):Sm E TT valT 81 [ag p.c] h = some (.d (u64 p.uid),h):=by rw [Sm_v t191 v191]; simp [Bd_mk,q191]
theorem S193 (p:Svc) (h:Hp):Sm E TT valT 84 [ag p.c] h = some (.d (u64 p.id),h):=by rw [Sm_v t193 v193]; simp [Bd_mk,q193]
theorem S200 (p:Way) (h:Hp):Sm E TT valT 91 [ag p.c] h = some (.d (u64 p.id),h):=by rw [Sm_v t200 v200]; simp [Bd_mk,q200]
theorem S205 (p:Pol) (h:Hp):Sm E TT valT 96 [ag p.c] h = some (.d (u64 p.id),h):=by rw [Sm_v t205 v205]; simp [Bd_mk,q205]
theorem u300:TT 115 = some (risQ 7):=t300
theorem u306:TT 120 = some (risQ 5):=t306
theorem u308:TT 122 = some (risQ 2):=t308
theorem u310:TT 124 = some (risQ 5):=t310
theorem S300 (s:Sl Pod) (hs:short s) (h:Hp):Sm E TT valT 115 [.d (s.d Pod.c),.fn 81 []] h = some (bl (risesL (s.l.map Pod.uid)),h):=S_rises u300 v300 (fun _=>rfl) hs.lt (fun e _ h=>S191 e h) h
theorem S306 (s:Sl Svc) (hs:short s) (h:Hp):Sm E TT valT 120 [.d (s.d Svc.c),.fn 84 []] h = some (bl (risesL (s.l.map Svc.id)),h):=S_rises u306 v306 (fun _=>rfl) hs.lt (fun e _ h=>S193 e h) h
theorem S308 (s:Sl Way) (hs:short s) (h:Hp):Sm E TT valT 122 [.d (s.d Way.c),.fn 91 []] h = some (bl (risesL (s.l.map Way.id)),h):=S_rises u308 v308 (fun _=>rfl) hs.lt (fun e _ h=>S200 e h) h
theorem S310 (s:Sl Pol) (hs:short s) (h:Hp):Sm E TT valT 124 [.d (s.d Pol.c),.fn 96 []] h = some (bl (risesL (s.l.map Pol.id)),h):=S_rises u310 v310 (fun _=>rfl) hs.lt (fun e _ h=>S205 e h) h
def svcBy (c:Cfg) (n:Int):Option Svc:=c.services.l.find? fun p=>p.id == n
theorem S108' (c:Cfg) (hc:c.ok) (n:Int) (h:Hp):Sm E TT valT 47 [c.v,.d (u64 n)] h = some (.tup (match svcBy c n with | some p=>[p.v,bl true] | none=>[svc0.v,bl false]),h):=S108 c hc n h
def podBad1 (c:Cfg) (p:Pod):Bool:=decide (p.uid < 10) || (decide (p.uid >= c.next) || !(labelMay p.ns && labelMay p.sa))
def podBad2 (c:Cfg) (p:Pod):Bool:=decide (p.host < 2) || (decide (p.host > IntKind.wrap .i64 (c.hosts + 1)) || !portMay p.port)
def podBad3 (c:Cfg) (p:Pod):Bool:=!(p.service == 0) && (match svcBy c p.service with | some s=>!eqS s.ns p.ns | none=>true)
def podBad (c:Cfg) (p:Pod):Bool:=podBad1 c p || (podBad2 c p || podBad3 c p)
theorem k298 (p:Pod) (hp:p.wf big) (h:Hp):Sm E TT valT 113 [.agg [.d (.str p.ns),.d (.str p.sa)]] h = some (bl (labelMay p.ns && labelMay p.sa),h):=S298 p.ns p.sa hp.2.1 hp.2.2.1 h
theorem k299 (n:Int) (h:Hp):Sm E TT valT 114 [.d (i64 n)] h = some (bl (portMay n),h):=S299 n h
theorem L207 (c:Cfg) (hc:c.wf big):∀ (m i:Nat) (bs:List Blk),i + m = c.pods.l.length -> getB bs 0 = some (c.c.map .d) →
 ∃ ys,Cd E TT valT (.loop [1,8,9,10] q207_b0) [(1,.ptr 0 0),(8,.d (c.pods.d Pod.c)),(9,.d (i64 c.pods.l.length)),(10,.d (i64 i))] ⟨bs,0⟩ =
  cond ((c.pods.l.drop i).any (podBad c)) (some (.ret,[(2,bl false)],⟨bs ++ ys,0⟩)) (some (.exit 0,[(1,.ptr 0 0)],⟨bs ++ ys,0⟩)):=by
 have hok:=hc.ok (Nat.le_refl _)
 have hlt:=hok.1.lt
 intro m
 have key:=Cd_round (E:=E) (T:=TT) (val:=valT) [1,8,9,10] q207_b0
 generalize Cd E TT valT (.loop [1,8,9,10] q207_b0) = W at key ⊢
 induction m with
 | zero =>
  intro i bs hi hb
  refine ⟨[],?_⟩
  rw [key,List.drop_eq_nil_of_le (by omega)]
  simp [q207_b0,show ¬ ((i:Int) < c.pods.l.length) from by omega]
 | succ m ih =>
  intro i bs hi hb
  have h1:i < c.pods.l.length:=by omega
  have hx:=fun h=>idxv_sl (z:=7) h (List.getElem?_eq_getElem h1) (cells:=Pod.c) rfl
  have hw:=int_next h1 hlt
  have hp:=hc.2.2.2.2.1.2 _ (List.getElem_mem h1)
  rw [key,List.drop_eq_getElem_cons h1]
  generalize c.pods.l[i] = p at *
  have n1:=fun h=>k298 (E:=E) p hp h
  have n2:=fun h=>k299 (E:=E) p.port h
  have n3:=fun h=>S108' (E:=E) c hok p.service h
  have hb2:=fun ys=>getB_of (ys:=ys) hb
  have h0:((i:Int) < c.pods.l.length):=by omega
  simp only [List.any_cons]
  cases hsv:svcBy c p.service with
  | none =>
   simp only [hsv] at n3
   obtain ⟨ys,q⟩:=ih (i + 1) (bs ++ [.cells (p.c.map .d),.cells (svc0.c.map .d)]) (by omega) (hb2 _)
   generalize (List.drop (i + 1) c.pods.l).any (podBad c) = R at q ⊢
   generalize hnm:(labelMay p.ns && labelMay p.sa) = nm at n1
   generalize hpt:portMay p.port = pt at n2
   by_cases a1:p.uid < 10
   case pos=>exact ⟨_,by simp (decide:=true) [q207_b0,hb,hb2,hx,n1,n2,n3,h0,openA,opDE_call,noTr,podBad,podBad1,podBad2,podBad3,hsv,a1]; rfl⟩
   by_cases a2:p.uid >= c.next
   case pos=>exact ⟨_,by simp (decide:=true) [q207_b0,hb,hb2,hx,n1,n2,n3,h0,openA,opDE_call,noTr,podBad,podBad1,podBad2,podBad3,hsv,a1,a2]; rfl⟩
   cases nm
   case false=>exact ⟨_,by simp (decide:=true) [q207_b0,hb,hb2,hx,n1,n2,n3,h0,openA,opDE_call,noTr,podBad,podBad1,podBad2,podBad3,hsv,a1,a2,hnm]; rfl⟩
   by_cases b1:p.host < 2
   case pos=>exact ⟨_,by simp (decide:=true) [q207_b0,hb,hb2,hx,n1,n2,n3,h0,openA,opDE_call,noTr,podBad,podBad1,podBad2,podBad3,hsv,a1,a2,hnm,b1]; rfl⟩
   by_cases b2:p.host > IntKind.wrap .i64 (c.hosts + 1)
   case pos=>exact ⟨_,by simp (decide:=true) [q207_b0,hb,hb2,hx,n1,n2,n3,h0,openA,opDE_call,noTr,podBad,podBad1,podBad2,podBad3,hsv,a1,a2,hnm,b1,b2]; rfl⟩
   cases pt
   case false=>exact ⟨_,by simp (decide:=true) [q207_b0,hb,hb2,hx,n1,n2,n3,h0,openA,opDE_call,noTr,podBad,podBad1,podBad2,podBad3,hsv,a1,a2,hnm,b1,b2,hpt]; rfl⟩
   by_cases c1:p.service = 0
   case pos =>
    have n4:=n3
    rw [c1] at n4
    refine ⟨[.cells (p.c.map .d),.cells (svc0.c.map .d)] ++ ys,?_⟩
    simp (decide:=true) [n4,q207_b0,hb,hb2,hx,n1,n2,n3,h0,openA,opDE_call,noTr,podBad,podBad1,podBad2,podBad3,hsv,a1,a2,hnm,b1,b2,hpt,c1,hw]
    simpa using q
   exact ⟨_,by simp (decide:=true) [q207_b0,hb,hb2,hx,n1,n2,n3,h0,openA,opDE_call,noTr,podBad,podBad1,podBad2,podBad3,hsv,a1,a2,hnm,b1,b2,hpt,c1]; rfl⟩
  | some s =>
   simp only [hsv] at n3
   obtain ⟨ys,q⟩:=ih (i + 1) (bs ++ [.cells (p.c.map .d),.cells (s.c.map .d)]) (by omega) (hb2 _)
   generalize (List.drop (i + 1) c.pods.l).any (podBad c) = R at q ⊢
   generalize hnm:(labelMay p.ns && labelMay p.sa) = nm at n1
   generalize hpt:portMay p.port = pt at n2
   by_cases a1:p.uid < 10
   case pos=>exact ⟨_,by simp (decide:=true) [q207_b0,hb,hb2,hx,n1,n2,n3,h0,openA,opDE_call,noTr,podBad,podBad1,podBad2,podBad3,hsv,a1]; rfl⟩
   by_cases a2:p.uid >= c.next
   case pos=>exact ⟨_,by simp (decide:=true) [q207_b0,hb,hb2,hx,n1,n2,n3,h0,openA,opDE_call,noTr,podBad,podBad1,podBad2,podBad3,hsv,a1,a2]; rfl⟩
   cases nm
   case false=>exact ⟨_,by simp (decide:=true) [q207_b0,hb,hb2,hx,n1,n2,n3,h0,openA,opDE_call,noTr,podBad,podBad1,podBad2,podBad3,hsv,a1,a2,hnm]; rfl⟩
   by_cases b1:p.host < 2
   case pos=>exact ⟨_,by simp (decide:=true) [q207_b0,hb,hb2,hx,n1,n2,n3,h0,openA,opDE_call,noTr,podBad,podBad1,podBad2,podBad3,hsv,a1,a2,hnm,b1]; rfl⟩
   by_cases b2:p.host > IntKind.wrap .i64 (c.hosts + 1)
   case pos=>exact ⟨_,by simp (decide:=true) [q207_b0,hb,hb2,hx,n1,n2,n3,h0,openA,opDE_call,noTr,podBad,podBad1,podBad2,podBad3,hsv,a1,a2,hnm,b1,b2]; rfl⟩
   cases pt
   case false=>exact ⟨_,by simp (decide:=true) [q207_b0,hb,hb2,hx,n1,n2,n3,h0,openA,opDE_call,noTr,podBad,podBad1,podBad2,podBad3,hsv,a1,a2,hnm,b1,b2,hpt]; rfl⟩
   by_cases c1:p.service = 0
   case pos =>
    have n4:=n3
    rw [c1] at n4
    refine ⟨[.cells (p.c.map .d),.cells (s.c.map .d)] ++ ys,?_⟩
    simp (decide:=true) [n4,q207_b0,hb,hb2,hx,n1,n2,n3,h0,openA,opDE_call,noTr,podBad,podBad1,podBad2,podBad3,hsv,a1,a2,hnm,b1,b2,hpt,c1,hw]
    simpa using q
   cases c2:eqS s.ns p.ns
   case false=>exact ⟨_,by simp (decide:=true) [q207_b0,hb,hb2,hx,n1,n2,n3,h0,openA,opDE_call,noTr,podBad,podBad1,podBad2,podBad3,hsv,a1,a2,hnm,b1,b2,hpt,c1,c2]; rfl⟩
   refine ⟨[.cells (p.c.map .d),.cells (s.c.map .d)] ++ ys,?_⟩
   simp (decide:=true) [q207_b0,hb,hb2,hx,n1,n2,n3,h0,openA,opDE_call,noTr,podBad,podBad1,podBad2,podBad3,hsv,a1,a2,hnm,b1,b2,hpt,c1,c2,hw]
   simpa using q
def podsMay (c:Cfg):Bool:=!c.pods.l.any (podBad c) && risesL (c.pods.l.map Pod.uid)
theorem S207 (c:Cfg) (hc:c.wf big) (h:Hp):Sm E TT valT 68 [c.v] h = some (bl (podsMay c),h):=by
 have hok:=hc.ok (Nat.le_refl _)
 obtain ⟨ys,q⟩:=L207 (E:=E) c hc c.pods.l.length 0 [.cells (c.c.map .d)] (by omega) (by simp)
 have n1:=fun h=>S300 (E:=E) c.pods hok.1 h
 rw [Sm_v t207 v207]
 simp [Bd_mk,q207]
 rw [Cd_keep]
 simp at q
 simp [q]
 cases hA:c.pods.l.any (podBad c) <;> simp [podsMay,hA,n1]
end Go.Proofs.YthkeklemhcfbcaaGreat
namespace Go.Proofs.YthkeklemhcfbcaaGreat
variable {E:Calls'}
theorem u302:TT 117 = some (someQ 172):=t302
theorem u340:TT 172 = some (anyQ 48):=t340
theorem u109:TT 48 = some (idxQ 2):=t109
theorem u201:TT 92 = some (someQ 145):=t201
theorem u239:TT 145 = some (anyQ 45):=t239
theorem u103:TT 45 = some (idxQ 5):=t103
theorem u196:TT 87 = some (someQ 140):=t196
theorem u292:TT 140 = some (anyQ 187):=t292
theorem u339:TT 187 = some (idxQ 5):=t339
theorem S303 (w:Way) (s:Svc) {x:Nat} {h:Hp} (hb:getB h.bs x = some (s.c.map .d)):Sm E TT valT 118 [ag w.c,.ptr x 0] h = some (bl (w.id == s.way),h):=by
 rw [Sm_ref t303 v303]
 simp [Bd_mk,q303,getB_of hb,V.under]
theorem S302 (l:Sl Way) (hl:short l) (s:Svc) {x:Nat} {h:Hp} (hb:getB h.bs x = some (s.c.map .d)):Sm E TT valT 117 [.d (l.d Way.c),.fn 118 [.ptr x 0]] h = some (bl (l.l.any fun w=>w.id == s.way),h) :=
 S_some u302 v302 rfl rfl (S_any Way.c (z:=2) u109 v109 u340 v340 (RowIs.of (cells:=Way.c) (fun _=>rfl) _) hl.lt fun e _ lo=>S303 e s hb)
def cntMay (n:Int):Bool:=decide (n >= 1) && decide (n <= 4611686018427387903)
theorem k304 (n:Int) (h:Hp):Sm E TT valT 119 [.d (u64 n)] h = some (bl (cntMay n),h):=S304 n h
def svcBad (c:Cfg) (s:Svc):Bool:=!cntMay s.id || (!labelMay s.ns || (!portMay s.port || !((s.way == 0) || c.bound.l.any fun w=>w.id == s.way)))
theorem S301 (c:Cfg) (hc:c.ok) (s:Svc) (hs:s.wf big) {x:Nat} {h:Hp} (hb:getB h.bs x = some (c.c.map .d)):Sm E TT valT 116 [ag s.c,.ptr x 0] h = some (bl (svcBad c s),h):=by
 rw [Sm_ref t301 v301]
 have n1:=fun h=>k304 (E:=E) s.id h
 have n2:=fun h=>S305 (E:=E) s.ns hs.2.1 h
 have n3:=fun h=>k299 (E:=E) s.port h
 have n5:∀ lo,Sm E TT valT 117 [.d (c.bound.d Way.c),.fn 118 [.ptr h.bs.length 0]] ⟨h.bs ++ [.cells (s.c.map .d)],lo⟩ = some (bl (c.bound.l.any fun w=>w.id == s.way),⟨h.bs ++ [.cells (s.c.map .d)],lo⟩):=fun lo=>S302 c.bound hc.2.2.1 s (by simp)
 unfold svcBad
 generalize cntMay s.id = A at *
 generalize labelMay s.ns = B at *
 generalize portMay s.port = C at *
 generalize (c.bound.l.any fun w=>w.id == s.way) = F at *
 have hb2:=fun ys=>getB_of (ys:=ys) hb
 by_cases w0:s.way = 0
 · cases A <;> cases B <;> cases C <;> simp (decide:=true) [Bd_mk,q301,hb,hb2,n1,n2,n3,w0,openA,opDE_call,noTr,V.under,opsA_if]
 · cases A <;> cases B <;> cases C <;> cases F <;> simp (decide:=true) [Bd_mk,q301,hb,hb2,n1,n2,n3,n5,w0,openA,opDE_call,noTr,V.under,opsA_if]
def servicesMay (c:Cfg):Bool:=!c.services.l.any (svcBad c) && risesL (c.services.l.map Svc.id)
theorem S208 (c:Cfg) (hc:c.wf big) (h:Hp):Sm E TT valT 69 [c.v] h = some (bl (servicesMay c),h):=by
 have hok:=hc.ok (Nat.le_refl _)
 have n1:=fun h=>S306 (E:=E) c.services hok.2.1 h
 have n2:Sm E TT valT 92 [.d (c.services.d Svc.c),.fn 116 [.ptr 0 0]] ⟨[.cells (c.c.map .d)],0⟩ = some (bl (c.services.l.any (svcBad c)),⟨[.cells (c.c.map .d)],0⟩) :=
  S_some u201 v201 rfl rfl (S_any Svc.c (z:=5) u103 v103 u239 v239 (RowIs.of (cells:=Svc.c) (fun _=>rfl) _) hok.2.1.lt fun e he lo=>S301 c hok e (hc.2.2.2.2.2.1.2 e he) (by simp))
 rw [Sm_v t208 v208]
 unfold servicesMay
 generalize c.services.l.any (svcBad c) = A at *
 cases A <;> simp (decide:=true) [Bd_mk,q208,n1,n2,openA,opDE_call,noTr,opsA_if]
def polBad (c:Cfg) (p:Pol):Bool:=decide (p.id < 1) || (!polMay p || (!(p.service == 0) && (svcBy c p.service).isNone))
section
variable (h385:∀ t:Target,t.wf big -> ∀ h,E 163 [ag t.c] h = some (bl (targetMay t),h))
include h385
theorem S309 (c:Cfg) (hc:c.ok) (p:Pol) (hp:p.wf big) {x:Nat} {h:Hp} (hb:getB h.bs x = some (c.c.map .d)):Sm E TT valT 123 [ag p.c,.ptr x 0] h = some (bl (polBad c p),h):=by
 rw [Sm_ref t309 v309]
 have n1:=fun h=>S263 h385 p hp h
 have n2:=fun h=>S108' (E:=E) c hc p.service h
 have hb2:=fun ys=>getB_of (ys:=ys) hb
 unfold polBad
 generalize polMay p = A at *
 cases hsv:svcBy c p.service with
 | none =>
  simp only [hsv] at n2
  by_cases a1:p.id < 1
  case pos=>simp (decide:=true) [Bd_mk,q309,hb,hb2,n1,n2,a1,openA,opDE_call,noTr,V.under,opsA_if]
  by_cases a2:p.service = 0
  · rw [a2] at n2
    cases A <;> simp (decide:=true) [Bd_mk,q309,hb,hb2,n1,n2,a1,a2,openA,opDE_call,noTr,V.under,opsA_if]
  · cases A <;> simp (decide:=true) [Bd_mk,q309,hb,hb2,n1,n2,a1,a2,openA,opDE_call,noTr,V.under,opsA_if]
 | some s =>
  simp only [hsv] at n2
  by_cases a1:p.id < 1
  case pos=>simp (decide:=true) [Bd_mk,q309,hb,hb2,n1,n2,a1,openA,opDE_call,noTr,V.under,opsA_if]
  by_cases a2:p.service = 0
  · rw [a2] at n2
    cases A <;> simp (decide:=true) [Bd_mk,q309,hb,hb2,n1,n2,a1,a2,openA,opDE_call,noTr,V.under,opsA_if]
  · cases A <;> simp (decide:=true) [Bd_mk,q309,hb,hb2,n1,n2,a1,a2,openA,opDE_call,noTr,V.under,opsA_if]
def policiesMay (c:Cfg):Bool:=!c.policies.l.any (polBad c) && risesL (c.policies.l.map Pol.id)
theorem S211 (c:Cfg) (hc:c.wf big) (h:Hp):Sm E TT valT 72 [c.v] h = some (bl (policiesMay c),h):=by
 have hok:=hc.ok (Nat.le_refl _)
 have n1:=fun h=>S310 (E:=E) c.policies hok.2.2.2.1 h
 have n2:Sm E TT valT 87 [.d (c.policies.d Pol.c),.fn 123 [.ptr 0 0]] ⟨[.cells (c.c.map .d)],0⟩ = some (bl (c.policies.l.any (polBad c)),⟨[.cells (c.c.map .d)],0⟩) :=
  S_some u196 v196 rfl rfl (S_any Pol.c (z:=5) u339 v339 u292 v292 (RowIs.of (cells:=Pol.c) (fun _=>rfl) _) hok.2.2.2.1.lt fun e he lo=>S309 h385 c hok e (hc.2.2.2.2.2.2.2.2 e he) (by simp))
 rw [Sm_v t211 v211]
 unfold policiesMay
 generalize c.policies.l.any (polBad c) = A at *
 cases A <;> simp (decide:=true) [Bd_mk,q211,n1,n2,openA,opDE_call,noTr,opsA_if]
end
end Go.Proofs.YthkeklemhcfbcaaGreat
namespace Go.Proofs.YthkeklemhcfbcaaGreat
variable {E:Calls'}
theorem S307 (w v:Way) {x:Nat} {h:Hp} (hb:getB h.bs x = some (w.c.map .d)):Sm E TT valT 121 [ag v.c,.ptr x 0] h = some (bl (v.node == w.node),h):=by
 rw [Sm_ref t307 v307]
 simp [Bd_mk,q307,getB_of hb,V.under]
theorem S302n (l:Sl Way) (hl:l.l.length < 2 ^ 62) (w:Way) {x:Nat} {h:Hp} (hb:getB h.bs x = some (w.c.map .d)):Sm E TT valT 117 [.d (l.d Way.c),.fn 121 [.ptr x 0]] h = some (bl (l.l.any fun v=>v.node == w.node),h) :=
 S_some u302 v302 rfl rfl (S_any Way.c (z:=2) u109 v109 u340 v340 (RowIs.of (cells:=Way.c) (fun _=>rfl) _) hl fun e _ lo=>S307 w e hb)
def wayBad (c:Cfg) (pre:List Way) (w:Way):Bool:=!cntMay w.id || (decide (w.node < IntKind.wrap .i64 (c.hosts + 2)) || (decide (w.node > IntKind.wrap .i64 (IntKind.wrap .i64 (c.hosts + 1) + c.ways)) || pre.any fun v=>v.node == w.node))
def waysBad (c:Cfg):List Way -> List Way -> Bool
 | _,[]=>false
 | pre,w :: l=>wayBad c pre w || waysBad c (pre ++ [w]) l
theorem slc_take {h:Hp} {ev:X -> V} {α:Type} {cells:α -> List D} {z:Nat} (hz:∀ x,(cells x).length = z) {s:Sl α} {x:X} {n:Nat} (hx:ev x = .d (i64 n)) (hn:n < s.l.length):sliceE h ev .sl z (.d (s.d cells)) none (some x) none = some (.d (Sl.d cells ⟨s.nl,s.l.take n⟩)):=by
 simp only [sliceE,Sl.d,boundE,hx,List.length_map]
 rw [if_pos (by omega)]
 simp only [Int.toNat_natCast]
 have hh:((s.l.map cells).headD (List.replicate z .nilp)).length = z:=by
  cases s.l with
  | nil=>simp
  | cons a l=>simp [hz]
 rw [if_pos ⟨by omega,by omega,hh⟩]
 simp [List.map_take]
theorem L210 (c:Cfg) (hc:c.wf big):∀ (m i:Nat) (bs:List Blk),i + m = c.bound.l.length -> getB bs 0 = some (c.c.map .d) →
 ∃ ys,Cd E TT valT (.loop [1,7,8,9] q210_b0) [(1,.ptr 0 0),(7,.d (c.bound.d Way.c)),(8,.d (i64 c.bound.l.length)),(9,.d (i64 i))] ⟨bs,0⟩ =
  cond (waysBad c (c.bound.l.take i) (c.bound.l.drop i)) (some (.ret,[(2,bl false)],⟨bs ++ ys,0⟩)) (some (.exit 0,[(1,.ptr 0 0)],⟨bs ++ ys,0⟩)):=by
 have hok:=hc.ok (Nat.le_refl _)
 have hlt:=hok.2.2.1.lt
 intro m
 have key:=Cd_round (E:=E) (T:=TT) (val:=valT) [1,7,8,9] q210_b0
 generalize Cd E TT valT (.loop [1,7,8,9] q210_b0) = W at key ⊢
 induction m with
 | zero =>
  intro i bs hi hb
  refine ⟨[],?_⟩
  rw [key,List.drop_eq_nil_of_le (by omega)]
  simp [q210_b0,waysBad,show ¬ ((i:Int) < c.bound.l.length) from by omega]
 | succ m ih =>
  intro i bs hi hb
  have h1:i < c.bound.l.length:=by omega
  have hx:=fun h=>idxv_sl (z:=2) h (List.getElem?_eq_getElem h1) (cells:=Way.c) rfl
  have hw:=int_next h1 hlt
  have htake:c.bound.l.take (i + 1) = c.bound.l.take i ++ [c.bound.l[i]]:=by rw [List.take_add_one,List.getElem?_eq_getElem h1]; rfl
  have hwf:=hc.2.2.2.2.2.2.1.2 _ (List.getElem_mem h1)
  rw [key,List.drop_eq_getElem_cons h1]
  generalize c.bound.l[i] = w at *
  have n1:=fun h=>k304 (E:=E) w.id h
  have hsl:=fun (h:Hp) (ev:X -> V) (hx:ev (.t 16) = .d (i64 i))=>slc_take (h:=h) (ev:=ev) (cells:=Way.c) (z:=2) (fun _=>rfl) (s:=c.bound) hx h1
  have n2:Sm E TT valT 117 [.d (Sl.d Way.c ⟨c.bound.nl,c.bound.l.take i⟩),.fn 121 [.ptr bs.length 0]] ⟨bs ++ [.cells (w.c.map .d)],0⟩ = some (bl ((c.bound.l.take i).any fun v=>v.node == w.node),⟨bs ++ [.cells (w.c.map .d)],0⟩) :=
   S302n ⟨c.bound.nl,c.bound.l.take i⟩ (by simp only [List.length_take]; omega) w (by simp)
  have hb2:=fun ys=>getB_of (ys:=ys) hb
  have h0:((i:Int) < c.bound.l.length):=by omega
  obtain ⟨ys,q⟩:=ih (i + 1) (bs ++ [.cells (w.c.map .d)]) (by omega) (hb2 _)
  rw [htake] at q
  simp only [waysBad]
  generalize waysBad c (c.bound.l.take i ++ [w]) (c.bound.l.drop (i + 1)) = R at q ⊢
  unfold wayBad
  generalize cntMay w.id = A at *
  generalize ((c.bound.l.take i).any fun v=>v.node == w.node) = F at *
  generalize hS:Sl.d Way.c ⟨c.bound.nl,c.bound.l.take i⟩ = SS at *
  cases A
  case false=>exact ⟨_,by simp (decide:=true) [q210_b0,hb,hb2,hx,n1,n2,hsl,h0,openA,opDE_call,noTr,opsA_if]; rfl⟩
  by_cases b1:w.node < IntKind.wrap .i64 (c.hosts + 2)
  case pos=>exact ⟨_,by simp (decide:=true) [q210_b0,hb,hb2,hx,n1,n2,hsl,h0,openA,opDE_call,noTr,opsA_if,b1]; rfl⟩
  by_cases b2:w.node > IntKind.wrap .i64 (IntKind.wrap .i64 (c.hosts + 1) + c.ways)
  case pos=>exact ⟨_,by simp (decide:=true) [q210_b0,hb,hb2,hx,n1,n2,hsl,h0,openA,opDE_call,noTr,opsA_if,b1,b2]; rfl⟩
  cases F
  case true=>exact ⟨_,by simp (decide:=true) [q210_b0,hb,hb2,hx,n1,n2,hsl,h0,openA,opDE_call,noTr,opsA_if,b1,b2]; rfl⟩
  refine ⟨[.cells (w.c.map .d)] ++ ys,?_⟩
  simp (decide:=true) [q210_b0,hb,hb2,hx,n1,n2,hsl,h0,openA,opDE_call,noTr,opsA_if,b1,b2,hw]
  simpa using q
def boundMay (c:Cfg):Bool:=!waysBad c [] c.bound.l && risesL (c.bound.l.map Way.id)
theorem S210 (c:Cfg) (hc:c.wf big) (h:Hp):Sm E TT valT 71 [c.v] h = some (bl (boundMay c),h):=by
 have hok:=hc.ok (Nat.le_refl _)
 obtain ⟨ys,q⟩:=L210 (E:=E) c hc c.bound.l.length 0 [.cells (c.c.map .d)] (by omega) (by simp)
 have n1:=fun h=>S308 (E:=E) c.bound hok.2.2.1 h
 rw [Sm_v t210 v210]
 unfold boundMay
 simp at q
 generalize waysBad c [] c.bound.l = A at *
 simp [Bd_mk,q210]
 rw [Cd_keep]
 simp [q]
 cases A <;> simp [n1]
end Go.Proofs.YthkeklemhcfbcaaGreat
namespace Go.Proofs.YthkeklemhcfbcaaGreat
variable {E:Calls'}
structure Ar (c:Cfg) (acc:List Int) (bs:List Blk) (v:V):Prop where
 c0:getB bs 0 = some (c.c.map .d)
 is:∃ b cap,0 < b /\ v = .row b 0 acc.length cap 1 /\ getB bs b = some (acc.map (iv .u32)) /\ (cap = none \/ cap = some acc.length)
 ne:acc ≠ []
theorem Ar.nu {c:Cfg} {acc:List Int} {bs:List Blk} {v:V} (h:Ar c acc bs v):Go.Proofs.YthkeklemhcfbcaaGreat.nu v = some v:=by
 obtain ⟨b,cap,_,rfl,_⟩:=h.is; rfl
theorem Ar.lay {c:Cfg} {acc:List Int} {bs:List Blk} {v:V} (h:Ar c acc bs v) (ys:List Blk):Ar c acc (bs ++ ys) v:=by
 obtain ⟨b,cap,k1,k2,k3,k4⟩:=h.is
 exact ⟨getB_of h.c0,⟨b,cap,k1,k2,getB_of k3,k4⟩,h.ne⟩
theorem Ar.app {c:Cfg} {acc:List Int} {bs:List Blk} {v:V} (h:Ar c acc bs v) (hl:acc.length < big) (lo:Nat) {x:Int} {r:Nat} {cap:Option Nat} (hr:getB bs r = some [iv .u32 x]) :
 ∃ v' bs' lo',appv ⟨bs,lo⟩ 1 4 v (.row r 0 1 cap 1) = some (v',⟨bs',lo'⟩) /\ Ar c (acc ++ [x]) bs' v':=by
 obtain ⟨b,cp,k1,rfl,k3,k4⟩:=h.is
 have hbl:=getB_len k3
 have h0l:=getB_len h.c0
 have hrc:rowCells ⟨bs,lo⟩ (.row r 0 1 cap 1) 1 = some (1,[iv .u32 x]):=by
  simp only [rowCells,if_true,get_eq,hr]; rfl
 have hsub:sub (acc.map (iv .u32)) 0 (acc.length * 1) = some (acc.map (iv .u32)):=sub_all (by simp)
 have hroom:roomy (acc.length + 1) 4 = true:=by
  simp only [roomy,Bool.and_eq_true,decide_eq_true_eq]; exact ⟨hl,by decide⟩
 have hpos:0 < acc.length:=List.length_pos_iff.2 h.ne
 have hcs:(acc.map (iv .u32)) ++ [iv .u32 x] = (acc ++ [x]).map (iv .u32):=by simp
 rcases k4 with rfl | rfl
 · refine ⟨.row bs.length 0 (acc.length + 1) none 1,bs.set b (.cells []) ++ [.cells ((acc ++ [x]).map (iv .u32))],min lo b,?_,⟨?_,?_,by simp⟩⟩
   · simp only [appv,hrc,appendAt,get_eq,k3,hsub,hroom]
     simp [hpos,Hp.set]
   · refine getB_of ?_
     have:=h.c0
     unfold getB at this ⊢
     rw [List.getElem?_set_ne (by omega)]; exact this
   · exact ⟨bs.length,none,by omega,by simp,by have:=getB_at (bs:=bs.set b (.cells [])) (ys:=[.cells ((acc ++ [x]).map (iv .u32))]); simp only [List.length_set] at this; rw [this]; rfl,.inl rfl⟩
 · refine ⟨.row bs.length 0 (acc.length + 1) none 1,bs ++ [.cells ((acc ++ [x]).map (iv .u32))],lo,?_,⟨getB_of h.c0,?_,by simp⟩⟩
   · simp only [appv,hrc,appendAt,get_eq,k3,hsub,hroom]
     simp
     intro hh; omega
   · exact ⟨bs.length,none,by omega,by simp,by rw [getB_at]; rfl,.inl rfl⟩
theorem L209a (c:Cfg) (hc:c.ok) (hsm:c.pods.l.length <= 2 ^ 20):∀ (m i:Nat) (acc:List Int) (bs:List Blk) (lo:Nat) (v:V),i + m = c.pods.l.length -> acc.length = i + 1 -> Ar c acc bs v →
 ∃ v' bs' lo',Cd E TT valT (.loop [1,3,15,16,17] q209_b0) [(1,.ptr 0 0),(3,v),(15,.d (c.pods.d Pod.c)),(16,.d (i64 c.pods.l.length)),(17,.d (i64 i))] ⟨bs,lo⟩ =
  some (.exit 0,[(1,.ptr 0 0),(3,v')],⟨bs',lo'⟩) /\ Ar c (acc ++ (c.pods.l.drop i).map Pod.addr) bs' v':=by
 have hlt:=hc.1.lt
 intro m
 have key:=Cd_round (E:=E) (T:=TT) (val:=valT) [1,3,15,16,17] q209_b0
 generalize Cd E TT valT (.loop [1,3,15,16,17] q209_b0) = W at key ⊢
 induction m with
 | zero =>
  intro i acc bs lo v hi ha hA
  refine ⟨v,bs,lo,?_,by rw [List.drop_eq_nil_of_le (by omega)]; simpa using hA⟩
  rw [key]
  simp [q209_b0,show ¬ ((i:Int) < c.pods.l.length) from by omega]
 | succ m ih =>
  intro i acc bs lo v hi ha hA
  have h1:i < c.pods.l.length:=by omega
  have hx:=fun h=>idxv_sl (z:=7) h (List.getElem?_eq_getElem h1) (cells:=Pod.c) rfl
  have hw:=int_next h1 hlt
  have hnu:=hA.nu
  rw [List.drop_eq_getElem_cons h1]
  generalize c.pods.l[i] = p at *
  have hA2:=hA.lay [.cells (p.c.map .d),.cells [iv .u32 p.addr]]
  obtain ⟨v1,bs1,lo1,k1,k2⟩:=hA2.app (by show _ < 2 ^ 30; omega) (min lo bs.length) (x:=p.addr) (r:=bs.length + 1) (cap:=some 1) (by simp)
  have hnu1:=k2.nu
  obtain ⟨v',bs',lo',q1,q2⟩:=ih (i + 1) (acc ++ [p.addr]) bs1 lo1 v1 (by omega) (by simp; omega) k2
  refine ⟨v',bs',lo',?_,by simpa using q2⟩
  rw [key]
  simp [iv] at k1
  simp [q209_b0,hx,hnu,fillsE,k1,hnu1,hw,show ((i:Int) < c.pods.l.length) from by omega]
  simpa using q1
theorem L209b (c:Cfg) (hc:c.ok) (n:Nat) (hn:n <= 2 ^ 20) (hsm:c.services.l.length <= 2 ^ 20):∀ (m i:Nat) (acc:List Int) (bs:List Blk) (lo:Nat) (v:V),i + m = c.services.l.length -> acc.length = n + i + 1 -> Ar c acc bs v →
 ∃ v' bs' lo',Cd E TT valT (.loop [3,28,29,30] q209_b1) [(3,v),(28,.d (c.services.d Svc.c)),(29,.d (i64 c.services.l.length)),(30,.d (i64 i))] ⟨bs,lo⟩ =
  some (.exit 2,[(3,v')],⟨bs',lo'⟩) /\ Ar c (acc ++ (c.services.l.drop i).map Svc.addr) bs' v':=by
 have hlt:=hc.2.1.lt
 intro m
 have key:=Cd_round (E:=E) (T:=TT) (val:=valT) [3,28,29,30] q209_b1
 generalize Cd E TT valT (.loop [3,28,29,30] q209_b1) = W at key ⊢
 induction m with
 | zero =>
  intro i acc bs lo v hi ha hA
  refine ⟨v,bs,lo,?_,by rw [List.drop_eq_nil_of_le (by omega)]; simpa using hA⟩
  rw [key]
  simp [q209_b1,show ¬ ((i:Int) < c.services.l.length) from by omega]
 | succ m ih =>
  intro i acc bs lo v hi ha hA
  have h1:i < c.services.l.length:=by omega
  have hx:=fun h=>idxv_sl (z:=5) h (List.getElem?_eq_getElem h1) (cells:=Svc.c) rfl
  have hw:=int_next h1 hlt
  have hnu:=hA.nu
  rw [List.drop_eq_getElem_cons h1]
  generalize c.services.l[i] = p at *
  have hA2:=hA.lay [.cells (p.c.map .d),.cells [iv .u32 p.addr]]
  obtain ⟨v1,bs1,lo1,k1,k2⟩:=hA2.app (by show _ < 2 ^ 30; omega) (min lo bs.length) (x:=p.addr) (r:=bs.length + 1) (cap:=some 1) (by simp)
  have hnu1:=k2.nu
  obtain ⟨v',bs',lo',q1,q2⟩:=ih (i + 1) (acc ++ [p.addr]) bs1 lo1 v1 (by omega) (by simp; omega) k2
  refine ⟨v',bs',lo',?_,by simpa using q2⟩
  rw [key]
  simp [iv] at k1
  simp [q209_b1,hx,hnu,fillsE,k1,hnu1,hw,show ((i:Int) < c.services.l.length) from by omega]
  simpa using q1
theorem row_ld {bs:List Blk} {b lo:Nat} {l:List Int} (hb:getB bs b = some (l.map (iv .u32))) {j:Nat} (hj:j < l.length):ldv ⟨bs,lo⟩ (.ptr b j) 1 true = some (.d (.int .u32 l[j]),⟨bs,lo⟩):=by
 have hs:sub (l.map (iv .u32)) j 1 = some [iv .u32 l[j]]:=by
  rw [sub_eq,if_pos (by simp; omega),List.drop_eq_getElem_cons (by simpa using hj)]; simp
 rw [ldv_ptr,get_eq]
 show (match (match getB bs b with | some cs=>sub cs j 1 | none=>none) with | some cs=>_ | none=>none) = _
 rw [hb]
 simp only [hs]; rfl
theorem L209c {bs:List Blk} {b lo:Nat} {l:List Int} (hb:getB bs b = some (l.map (iv .u32))) (hl:l.length < 2 ^ 62) {cap:Option Nat} {i:Nat} (hi:i < l.length) (x:Int):∀ (m j:Nat),j + m = i →
 Cd E TT valT (.loop [3,8,10,40,41,42,49,50,51] q209_b2) [(3,.row b 0 l.length cap 1),(8,.d (.bool false)),(10,.d (.int .u32 x)),(40,.row b 0 l.length cap 1),(41,.d (i64 l.length)),(42,.d (i64 i)),(49,.row b 0 i cap 1),(50,.d (i64 i)),(51,.d (i64 j))] ⟨bs,lo⟩ =
  cond (((l.take i).drop j).any fun y=>x == y) (some (.exit 4,[(8,bl true)],⟨bs,lo⟩)) (some (.exit 6,[(3,.row b 0 l.length cap 1),(8,.d (.bool false)),(40,.row b 0 l.length cap 1),(41,.d (i64 l.length)),(42,.d (i64 i))],⟨bs,lo⟩)):=by
 intro m
 have key:=Cd_round (E:=E) (T:=TT) (val:=valT) [3,8,10,40,41,42,49,50,51] q209_b2
 generalize Cd E TT valT (.loop [3,8,10,40,41,42,49,50,51] q209_b2) = W at key ⊢
 induction m with
 | zero =>
  intro j hj
  rw [key,List.drop_eq_nil_of_le (by simp; omega)]
  simp [q209_b2,show ¬ ((j:Int) < (i:Int)) from by omega]
 | succ m ih =>
  intro j hj
  have h1:j < i:=by omega
  have hix:=fun h=>ix_row (b:=b) (o:=0) (z:=1) (cap:=cap) (kd:=.i64) (h:=h) h1
  have hld:=row_ld (lo:=lo) hb (show j < l.length by omega)
  have hw:=int_next (show j < l.length by omega) hl
  simp only [Nat.mul_one,Nat.zero_add] at hix
  have q:=ih (j + 1) (by omega)
  rw [key,List.drop_eq_getElem_cons (show j < (l.take i).length by simp; omega)]
  simp only [List.getElem_take,List.any_cons]
  generalize l[j]'(by omega) = y at *
  generalize ((l.take i).drop (j + 1)).any (fun y=>x == y) = R at *
  have h0:((j:Int) < (i:Int)):=by omega
  by_cases hxy:x = y
  · simp [q209_b2,hix,hld,h0,h1,hxy,-ldv_ptr]
  · simp [q209_b2,hix,hld,h0,h1,hxy,hw,-ldv_ptr]
    simpa using q
def dup:List Int -> List Int -> Bool
 | _,[]=>false
 | pre,x :: l=>(pre.any fun y=>x == y) || dup (pre ++ [x]) l
theorem L209d {bs:List Blk} {b lo:Nat} {l:List Int} (hb:getB bs b = some (l.map (iv .u32))) (hl:l.length < 2 ^ 62) {cap:Option Nat}:∀ (m i:Nat),i + m = l.length →
 Cd E TT valT (.loop [3,8,40,41,42] q209_b3) [(3,.row b 0 l.length cap 1),(8,.d (.bool false)),(40,.row b 0 l.length cap 1),(41,.d (i64 l.length)),(42,.d (i64 i))] ⟨bs,lo⟩ =
  some (.exit 4,[(8,bl (dup (l.take i) (l.drop i)))],⟨bs,lo⟩):=by
 intro m
 have key:=Cd_round (E:=E) (T:=TT) (val:=valT) [3,8,40,41,42] q209_b3
 generalize Cd E TT valT (.loop [3,8,40,41,42] q209_b3) = W at key ⊢
 induction m with
 | zero =>
  intro i hi
  rw [key,List.drop_eq_nil_of_le (by omega)]
  simp [q209_b3,dup,show ¬ ((i:Int) < l.length) from by omega]
 | succ m ih =>
  intro i hi
  have h1:i < l.length:=by omega
  have hix:=fun h=>ix_row (b:=b) (o:=0) (z:=1) (cap:=cap) (kd:=.i64) (h:=h) h1
  have hld:=row_ld (lo:=lo) hb h1
  have hw:=int_next h1 hl
  simp only [Nat.mul_one,Nat.zero_add] at hix
  have q:=ih (i + 1) (by omega)
  have htake:l.take (i + 1) = l.take i ++ [l[i]]:=by rw [List.take_add_one,List.getElem?_eq_getElem h1]; rfl
  have hin:=L209c (E:=E) (lo:=lo) hb hl (cap:=cap) h1 l[i] i 0 (by omega)
  have hsl:=fun (h:Hp) (ev:X -> V) (hx:ev (.t 48) = .d (.int .i64 i))=>slice_hi (h:=h) (ev:=ev) (x:=.t 48) (b:=b) (z:=1) (len:=l.length) (cap:=cap) (n:=i) hx (by omega)
  rw [htake] at q
  rw [key,List.drop_eq_getElem_cons h1]
  simp only [dup]
  simp only [List.drop_zero] at hin
  generalize l[i] = x at *
  generalize ((l.take i).any fun y=>x == y) = F at *
  have h0:((i:Int) < l.length):=by omega
  simp at hin
  simp [q209_b3,hix,hld,h0,h1,hsl,-ldv_ptr]
  rw [Cd_keep]
  simp [hin]
  cases F
  · simp [hw]
    simpa using q
  · simp
theorem S209 (c:Cfg) (hc:c.wf 1048576) (h:Hp):Sm E TT valT 70 [c.v] h = some (bl (!dup [] (0 :: (c.pods.l.map Pod.addr ++ c.services.l.map Svc.addr))),h):=by
 have hok:c.ok:=hc.ok (by decide)
 have f1:c.pods.l.length <= 2 ^ 20:=hc.2.2.2.2.1.1.1
 have f2:c.services.l.length <= 2 ^ 20:=hc.2.2.2.2.2.1.1.1
 have hA:Ar c [0] [.cells (c.c.map .d),.cells [iv .u32 0]] (.row 1 0 1 (some 1) 1):=⟨by simp,⟨1,some 1,by omega,rfl,by simp,.inr rfl⟩,by simp⟩
 obtain ⟨v1,bs1,lo1,a1,a2⟩:=L209a (E:=E) c hok f1 c.pods.l.length 0 [0] _ 0 _ (by omega) rfl hA
 simp only [List.drop_zero] at a2
 obtain ⟨v2,bs2,lo2,b1,b2⟩:=L209b (E:=E) c hok c.pods.l.length f1 f2 c.services.l.length 0 _ bs1 lo1 v1 (by omega) (by simp) a2
 simp only [List.drop_zero] at b2
 have hl:([0] ++ c.pods.l.map Pod.addr ++ c.services.l.map Svc.addr) = 0 :: (c.pods.l.map Pod.addr ++ c.services.l.map Svc.addr):=by simp
 rw [hl] at b2
 have hlen:(0 :: (c.pods.l.map Pod.addr ++ c.services.l.map Svc.addr)).length < 2 ^ 62:=by simp; omega
 generalize (0 :: (c.pods.l.map Pod.addr ++ c.services.l.map Svc.addr)) = L at *
 obtain ⟨b,cap,p1,rfl,p3,p4⟩:=b2.is
 have d1:=L209d (E:=E) (lo:=lo2) p3 hlen (cap:=cap) L.length 0 (by omega)
 have hc0:=a2.c0
 have hnu:=a2.nu
 rw [Sm_v t209 v209]
 simp [iv] at a1
 simp at b1 d1
 simp [Bd_mk,q209,fillsE]
 rw [Cd_keep]
 simp [a1,hc0,hnu]
 rw [Cd_keep]
 simp [b1]
 rw [Cd_keep]
 simp [d1]
def addrsMay (c:Cfg):Bool:=!dup [] (0 :: (c.pods.l.map Pod.addr ++ c.services.l.map Svc.addr))
end Go.Proofs.YthkeklemhcfbcaaGreat
namespace Go.Proofs.YthkeklemhcfbcaaGreat
variable {E:Calls'}
def smallT (c:Cfg):Bool:=decide ((c.pods.l.length:Int) <= 16) && decide ((c.services.l.length:Int) <= 6) && decide ((c.bound.l.length:Int) <= 4) && decide ((c.policies.l.length:Int) <= 12)
theorem S92 (c:Cfg) (h:Hp):Sm E TT valT 32 [c.v] h = some (bl (smallT c),h):=by
 unfold smallT
 rw [Sm_v t92 v92]
 by_cases a1:(c.pods.l.length:Int) <= 16
 case neg=>simp (decide:=true) [Bd_mk,q92,openA,opDE_call,noTr,opsA_if,a1]
 by_cases a2:(c.services.l.length:Int) <= 6
 case neg=>simp (decide:=true) [Bd_mk,q92,openA,opDE_call,noTr,opsA_if,a1,a2]
 by_cases a3:(c.bound.l.length:Int) <= 4
 case neg=>simp (decide:=true) [Bd_mk,q92,openA,opDE_call,noTr,opsA_if,a1,a2,a3]
 simp (decide:=true) [Bd_mk,q92,openA,opDE_call,noTr,opsA_if,a1,a2,a3]
def numsT (c:Cfg):Bool:=decide (c.epoch <= 4611686018427387903) && decide (c.next >= 10) && decide (c.next <= 4611686018427387904) && decide (c.hosts >= 1) && decide (c.hosts <= 4) && decide (c.ways >= 0) && decide (c.ways <= 4)
def mayT (c:Cfg):Bool:=numsT c && podsMay c && servicesMay c && addrsMay c && boundMay c && policiesMay c
theorem S93 (h385:∀ t:Target,t.wf big -> ∀ h,E 163 [ag t.c] h = some (bl (targetMay t),h)) (c:Cfg) (hc:c.wf 1048576) (hcb:c.wf big) (h:Hp):Sm E TT valT 33 [c.v] h = some (bl (mayT c),h):=by
 have n1:=fun h=>S207 (E:=E) c hcb h
 have n2:=fun h=>S208 (E:=E) c hcb h
 have n3:∀ h,Sm E TT valT 70 [c.v] h = some (bl (addrsMay c),h):=fun h=>S209 (E:=E) c hc h
 have n4:=fun h=>S210 (E:=E) c hcb h
 have n5:=fun h=>S211 h385 c hcb h
 unfold mayT
 generalize podsMay c = A at *
 generalize servicesMay c = B at *
 generalize addrsMay c = C at *
 generalize boundMay c = D at *
 generalize policiesMay c = F at *
 rw [Sm_v t93 v93]
 by_cases a1:c.epoch <= 4611686018427387903
 case neg=>simp (decide:=true) [Bd_mk,q93,openA,opDE_call,noTr,opsA_if,numsT,a1]
 by_cases a2:c.next >= 10
 case neg=>simp (decide:=true) [Bd_mk,q93,openA,opDE_call,noTr,opsA_if,numsT,a1,a2]
 by_cases a3:c.next <= 4611686018427387904
 case neg=>simp (decide:=true) [Bd_mk,q93,openA,opDE_call,noTr,opsA_if,numsT,a1,a2,a3]
 by_cases a4:c.hosts >= 1
 case neg=>simp (decide:=true) [Bd_mk,q93,openA,opDE_call,noTr,opsA_if,numsT,a1,a2,a3,a4]
 by_cases a5:c.hosts <= 4
 case neg=>simp (decide:=true) [Bd_mk,q93,openA,opDE_call,noTr,opsA_if,numsT,a1,a2,a3,a4,a5]
 by_cases a6:c.ways >= 0
 case neg=>simp (decide:=true) [Bd_mk,q93,openA,opDE_call,noTr,opsA_if,numsT,a1,a2,a3,a4,a5,a6]
 by_cases a7:c.ways <= 4
 case neg=>simp (decide:=true) [Bd_mk,q93,openA,opDE_call,noTr,opsA_if,numsT,a1,a2,a3,a4,a5,a6,a7]
 cases A
 case false=>simp (decide:=true) [Bd_mk,q93,openA,opDE_call,noTr,opsA_if,numsT,a1,a2,a3,a4,a5,a6,a7,n1]
 cases B
 case false=>simp (decide:=true) [Bd_mk,q93,openA,opDE_call,noTr,opsA_if,numsT,a1,a2,a3,a4,a5,a6,a7,n1,n2]
 cases C
 case false=>simp (decide:=true) [Bd_mk,q93,openA,opDE_call,noTr,opsA_if,numsT,a1,a2,a3,a4,a5,a6,a7,n1,n2,n3]
 cases D
 case false=>simp (decide:=true) [Bd_mk,q93,openA,opDE_call,noTr,opsA_if,numsT,a1,a2,a3,a4,a5,a6,a7,n1,n2,n3,n4]
 simp (decide:=true) [Bd_mk,q93,openA,opDE_call,noTr,opsA_if,numsT,a1,a2,a3,a4,a5,a6,a7,n1,n2,n3,n4,n5]
end Go.Proofs.YthkeklemhcfbcaaGreat
