/- slices.Compact at numbers, on a row of one's own. -/
import Derived.Test.YtmahnnnccohccaaGreatQt
import Derived.Test.YtmahnnnccohccaaGreatGn
import Derived.Test.YtmahnnnccohccaaGreatSa
import Derived.Test.YtmahnnnccohccaaGreatGd
import Derived.Test.YtmahnnnccohccaaGreatMa
import Derived.Test.YtmahnnnccohccaaGreatSx
import Derived.Test.YtmahnnnccohccaaGreatWf
set_option maxRecDepth 100000
set_option linter.unusedVariables false
set_option linter.unusedSimpArgs false
namespace Go.Proofs.YtmahnnnccohccaaGreat
def chg:List Int -> Nat
 | x :: y :: l=>(if x = y then 0 else 1) + chg (y :: l)
 | _=>0
theorem chg_le:∀ l:List Int,chg l <= l.length - 1
 | []=>by simp [chg]
 | [_]=>by simp [chg]
 | x :: y :: l=>by
  have:=chg_le (y :: l)
  simp only [chg,List.length_cons] at this ⊢
  split <;> omega
theorem chg_drop {zs:List Int} {i:Nat} (h:i + 1 < zs.length):chg (zs.drop i) = (if zs[i] = zs[i + 1] then 0 else 1) + chg (zs.drop (i + 1)):=by
 rw [List.drop_eq_getElem_cons (show i < zs.length by omega),List.drop_eq_getElem_cons h]
 simp only [chg]
def cmpN (zs:List Int):Nat:=if zs = [] then 0 else 1 + chg zs
def iv (kd:IntKind) (z:Int):V:=.d (.int kd z)
def Mr (bs:List Blk) (b:Nat) (cur:List V) (lo:Nat):Hp:=⟨bs.set b (.cells cur),lo⟩
section
variable {bs:List Blk} {b lo:Nat} {cur:List V}
theorem Mr_get (hb:b < bs.length):getB (Mr bs b cur lo).bs b = some cur:=by simp [Mr,getB,hb]
theorem Mr_ld (hb:b < bs.length) {k:Nat} {v:V} (hk:cur[k]? = some v):ldv (Mr bs b cur lo) (.ptr b k) 1 true = some (v,Mr bs b cur lo):=by
 obtain ⟨h1,h2⟩:=List.getElem?_eq_some_iff.1 hk
 have hs:sub cur k 1 = some [v]:=by
  rw [sub_eq,if_pos (by omega),List.drop_eq_getElem_cons h1,h2]; rfl
 rw [ldv_ptr,get_eq,Mr_get hb]
 simp only [hs]; rfl
theorem Mr_st (hb:b < bs.length) {k:Nat} {x:D} (hk:k < cur.length):stv (Mr bs b cur lo) (.ptr b k) (.d x) 1 = some (.undef,Mr bs b (cur.set k (.d x)) (min lo b)):=by
 have hp:put cur k [V.d x] = some (cur.set k (.d x)):=by
  unfold put
  rw [if_pos (by simp only [List.length_cons,List.length_nil]; omega),List.set_eq_take_append_cons_drop,if_pos hk]; simp
 have hg:=Mr_get (lo:=lo) (cur:=cur) hb
 simp [stv,V.cells,storeAt,hg,hp]
 simp [Hp.set,Mr]
theorem ix_row {b o n z:Nat} {cap:Option Nat} {kd:IntKind} {i:Nat} {h:Hp} (hi:i < n):idxv none z (.row b o n cap z) (.d (.int kd i)) h = some (.ptr b (o + i * z),h):=by
 simp [idxv,hi]
end
section
variable {E:Calls'} {T:FuncId -> Option QF} {val:FuncId -> Bool} {kd:IntKind}
theorem cmp_in {bs:List Blk} {b:Nat} (hb:b < bs.length) {zs:List Int} {cap cap2:Option Nat} (hn:zs.length < 2 ^ 62) {k0:Nat} (hk0:1 <= k0) (hk1:k0 < zs.length):∀ (m i k:Nat) (cur:List V) (lo:Nat),k0 + i + m = zs.length -> 1 <= i -> k < k0 + i -> cur.length = zs.length -> (∀ j (hj:j < zs.length),k <= j -> cur[j]? = some (iv kd zs[j])) →
 ∃ cur' lo',Cd E T val (.loop [0,3,4,5] (cmpB0 kd)) [(0,.row b 0 zs.length cap 1),(3,.d (i64 k)),(4,.row b k0 (zs.length - k0) cap2 1),(5,.d (i64 i))] (Mr bs b cur lo) =
  some (.exit 2,[(0,.row b 0 zs.length cap 1),(3,.d (i64 (k + chg (zs.drop (k0 + i - 1)):Nat)))],Mr bs b cur' lo') /\ cur'.length = zs.length /\ (lo' = lo \/ lo' = min lo b):=by
 intro m
 have key:=Cd_round (E:=E) (T:=T) (val:=val) [0,3,4,5] (cmpB0 kd)
 generalize Cd E T val (.loop [0,3,4,5] (cmpB0 kd)) = W at key ⊢
 induction m with
 | zero =>
  intro i k cur lo hi h1 hk hl hc
  have h0:chg (zs.drop (k0 + i - 1)) = 0:=by
   have:=chg_le (zs.drop (k0 + i - 1))
   simp only [List.length_drop] at this
   omega
  refine ⟨cur,lo,?_,hl,.inl rfl⟩
  rw [key,h0]
  simp [cmpB0,show ¬ ((i:Int) < ((zs.length - k0:Nat):Int)) from by omega]
 | succ m ih =>
  intro i k cur lo hi h1 hk hl hc
  have hlt:i < zs.length - k0:=by omega
  have e1:=hc (k0 + i) (by omega) (by omega)
  have e0:=hc (k0 + i - 1) (by omega) (by omega)
  have hd:=chg_drop (zs:=zs) (i:=k0 + i - 1) (by omega)
  have hs:k0 + i - 1 + 1 = k0 + i:=by omega
  simp only [hs] at hd
  rw [hd]
  have hw:=int_next (show i < zs.length by omega) hn
  have hwk:=int_next (show k < zs.length by omega) hn
  have hwm:IntKind.wrap .i64 ((i:Int) - 1) = ((i - 1:Nat):Int):=by rw [wrap64] <;> omega
  have i1:=fun h=>ix_row (b:=b) (o:=k0) (z:=1) (cap:=cap2) (kd:=.i64) (h:=h) hlt
  have i0:=fun h=>ix_row (b:=b) (o:=k0) (z:=1) (cap:=cap2) (kd:=.i64) (h:=h) (show i - 1 < zs.length - k0 by omega)
  have ik:=fun h=>ix_row (b:=b) (o:=0) (z:=1) (cap:=cap) (kd:=.i64) (h:=h) (show k < zs.length by omega)
  simp only [Nat.mul_one,show k0 + (i - 1) = k0 + i - 1 by omega,Nat.zero_add] at i1 i0 ik
  have l1:=Mr_ld (lo:=lo) hb e1
  have l0:=Mr_ld (lo:=lo) hb e0
  generalize zs[k0 + i]'(by omega) = y at *
  generalize zs[k0 + i - 1]'(by omega) = x at *
  by_cases hxy:x = y
  · obtain ⟨cur',lo',k1,k2,k3⟩:=ih (i + 1) k cur lo (by omega) (by omega) (by omega) hl hc
    refine ⟨cur',lo',?_,k2,k3⟩
    rw [key]
    simp only [hxy,if_true,Nat.zero_add]
    simp only [show k0 + (i + 1) - 1 = k0 + i by omega] at k1
    subst hxy
    simp [cmpB0,i1,i0,l1,l0,iv,hw,hwm,show ((i:Int) < ((zs.length - k0:Nat):Int)) from by omega,-ldv_ptr]
    simpa using k1
  · have st:=Mr_st (lo:=lo) (x:=.int kd y) hb (show k < cur.length by omega)
    obtain ⟨cur',lo',k1,k2,k3⟩:=ih (i + 1) (k + 1) (cur.set k (.d (.int kd y))) (min lo b) (by omega) (by omega) (by omega) (by simpa using hl) (by
     intro j hj hkj
     rw [List.getElem?_set_ne (by omega)]
     exact hc j hj (by omega))
    refine ⟨cur',lo',?_,k2,by rcases k3 with k3 | k3 <;> omega⟩
    rw [key]
    simp only [hxy,if_false]
    simp only [show k0 + (i + 1) - 1 = k0 + i by omega] at k1
    have hyx:¬ y = x:=fun h=>hxy h.symm
    simp [cmpB0,i1,i0,ik,l1,l0,st,iv,hw,hwk,hwm,hyx,show ((i:Int) < ((zs.length - k0:Nat):Int)) from by omega,-ldv_ptr,-stv_ptr]
    rw [show ((k:Int) + (1 + (chg (zs.drop (k0 + i)):Int))) = ((k + 1 + chg (zs.drop (k0 + i)):Nat):Int) by omega]
    simpa using k1
theorem cmp_sl {h:Hp} {ev:X -> V} {b n:Nat} {cap:Option Nat} {x:X} {k:Nat} (hx:ev x = .d (i64 k)) (hk:k < n) (h1:1 <= k):sliceE h ev .sl 1 (.row b 0 n cap 1) (some x) none none = some (.row b k (n - k) (cap.map (· - k)) 1):=by
 simp only [sliceE,boundE,hx]
 rw [if_pos (by omega)]
 simp only [Int.toNat_natCast]
 rw [if_pos ⟨by omega,by omega,trivial⟩,if_neg (by omega),if_pos hk]; simp
theorem cmp_clr {C:Calls'} {bs:List Blk} {b lo:Nat} {cur:List V} (hb:b < bs.length) {n k:Nat} {cap:Option Nat} {e:EA} {x:X} {zero:V} (he:x.ea e = .row b k (n - k) cap 1) (hc:cur.length = n) (hk:k < n) :
 ∃ cur',cur'.length = n /\ opE C (.clear 1 [zero] x) (X.ea e) (Mr bs b cur lo) = some (.undef,Mr bs b cur' (min lo b)):=by
 have hr:((List.replicate (n - k) [zero]).flatten).length = n - k:=by simp
 have hp:put cur k (List.replicate (n - k) [zero]).flatten = some (cur.take k ++ (List.replicate (n - k) [zero]).flatten ++ cur.drop (k + (n - k))):=by
  unfold put
  rw [if_pos (by rw [hr]; omega),hr]
 refine ⟨cur.take k ++ (List.replicate (n - k) [zero]).flatten ++ cur.drop (k + (n - k)),by simp only [List.length_append,hr,List.length_take,List.length_drop]; omega,?_⟩
 have hne:¬ (n - k) * 1 = 0:=by omega
 simp only [opE,he,if_true,get_eq,Mr_get hb,if_neg hne,hp]
 simp [Hp.set,Mr]
theorem cmp_out {bs:List Blk} {b lo:Nat} (hb:b < bs.length) {zs:List Int} {cap:Option Nat} (hn:zs.length < 2 ^ 62):∀ (m k:Nat),k + m = zs.length -> 1 <= k →
 ∃ cur' lo',(Cd E T val (.loop [0,3] (cmpB1 kd)) [(0,.row b 0 zs.length cap 1),(3,.d (i64 k))] (Mr bs b (zs.map (iv kd)) lo) = some (.ret,[(2,.row b 0 (k + chg (zs.drop (k - 1))) cap 1)],Mr bs b cur' lo') /\ cur'.length = zs.length /\ lo' = min lo b ∨
  Cd E T val (.loop [0,3] (cmpB1 kd)) [(0,.row b 0 zs.length cap 1),(3,.d (i64 k))] (Mr bs b (zs.map (iv kd)) lo) = some (.exit 0,[(0,.row b 0 zs.length cap 1)],Mr bs b (zs.map (iv kd)) lo) /\ k + chg (zs.drop (k - 1)) = zs.length):=by
 intro m
 have key:=Cd_round (E:=E) (T:=T) (val:=val) [0,3] (cmpB1 kd)
 generalize Cd E T val (.loop [0,3] (cmpB1 kd)) = W at key ⊢
 induction m with
 | zero =>
  intro k hk h1
  have h0:chg (zs.drop (k - 1)) = 0:=by
   have:=chg_le (zs.drop (k - 1))
   simp only [List.length_drop] at this
   omega
  refine ⟨[],0,.inr ⟨?_,by omega⟩⟩
  rw [key]
  simp [cmpB1,show ¬ ((k:Int) < (zs.length:Int)) from by omega]
 | succ m ih =>
  intro k hk h1
  have hlt:k < zs.length:=by omega
  have e1:(zs.map (iv kd))[k]? = some (iv kd zs[k]):=by simp [hlt]
  have e0:(zs.map (iv kd))[k - 1]? = some (iv kd (zs[k - 1]'(by omega))):=by rw [List.getElem?_map,List.getElem?_eq_getElem (show k - 1 < zs.length by omega)]; rfl
  have hd:=chg_drop (zs:=zs) (i:=k - 1) (by omega)
  have hs:k - 1 + 1 = k:=by omega
  simp only [hs] at hd
  have hw:=int_next hlt hn
  have hwm:IntKind.wrap .i64 ((k:Int) - 1) = ((k - 1:Nat):Int):=by rw [wrap64] <;> omega
  have i1:=fun h=>ix_row (b:=b) (o:=0) (z:=1) (cap:=cap) (kd:=.i64) (h:=h) hlt
  have i0:=fun h=>ix_row (b:=b) (o:=0) (z:=1) (cap:=cap) (kd:=.i64) (h:=h) (show k - 1 < zs.length by omega)
  simp only [Nat.mul_one,Nat.zero_add] at i1 i0
  have l1:=Mr_ld (lo:=lo) hb e1
  have l0:=Mr_ld (lo:=lo) hb e0
  have hin:=cmp_in (E:=E) (T:=T) (val:=val) (kd:=kd) hb (zs:=zs) (cap:=cap) (cap2:=cap.map (· - k)) hn h1 hlt (zs.length - k - 1) 1 k (zs.map (iv kd)) lo (by omega) (by omega) (by omega) (by simp) (fun j hj _=>by simp [hj])
  have hcl:=chg_le (zs.drop k)
  simp only [List.length_drop] at hcl
  rw [hd]
  generalize zs[k]'(by omega) = y at *
  generalize zs[k - 1]'(by omega) = x at *
  by_cases hxy:x = y
  · obtain ⟨cur',lo',k1,k2,k3⟩:=hin
    simp only [show k + 1 - 1 = k by omega] at k1
    have hK:k + chg (zs.drop k) < zs.length:=by omega
    generalize hKe:k + chg (zs.drop k) = K at *
    obtain ⟨cur2,c1,c2⟩:=cmp_clr (C:=Sm E T val) (lo:=lo') hb (cur:=cur') (e:=[(56,.row b K (zs.length - K) (cap.map (· - K)) 1),(55,.d (i64 K)),(54,.row b 0 zs.length cap 1),(0,.row b 0 zs.length cap 1),(3,.d (i64 K))]) (x:=.t 56) (n:=zs.length) (k:=K) (cap:=cap.map (· - K)) (zero:=.d (.int kd 0)) (by simp) k2 hK
    have sl1:=fun h=>cmp_sl (h:=h) (ev:=X.ea [(27,.d (i64 k)),(26,.row b 0 zs.length cap 1),(25,.d (.bool true)),(24,iv kd x),(23,.ptr b (k - 1)),(22,.d (i64 (k - 1:Nat))),(21,.d (i64 k)),(20,.row b 0 zs.length cap 1),(19,iv kd y),(18,.ptr b k),(17,.d (i64 k)),(16,.row b 0 zs.length cap 1),(13,.d (.bool true)),(12,.d (i64 zs.length)),(11,.row b 0 zs.length cap 1),(10,.d (i64 k)),(0,.row b 0 zs.length cap 1),(3,.d (i64 k))]) (x:=.t 27) (b:=b) (n:=zs.length) (cap:=cap) (k:=k) (by simp) hlt h1
    have sl2:=fun h=>cmp_sl (h:=h) (ev:=X.ea [(55,.d (i64 K)),(54,.row b 0 zs.length cap 1),(0,.row b 0 zs.length cap 1),(3,.d (i64 K))]) (x:=.t 55) (b:=b) (n:=zs.length) (cap:=cap) (k:=K) (by simp) hK (by omega)
    have sl3:=fun h=>slice_hi (h:=h) (ev:=X.ea [(58,.d (i64 K)),(57,.row b 0 zs.length cap 1),(56,.row b K (zs.length - K) (cap.map (· - K)) 1),(55,.d (i64 K)),(54,.row b 0 zs.length cap 1),(0,.row b 0 zs.length cap 1),(3,.d (i64 K))]) (x:=.t 58) (b:=b) (z:=1) (len:=zs.length) (cap:=cap) (n:=K) (by simp) (by omega)
    refine ⟨cur2,min lo' b,.inl ⟨?_,c1,by rcases k3 with k3 | k3 <;> omega⟩⟩
    rw [key]
    simp only [hxy,if_true,Nat.zero_add]
    subst hxy
    simp [iv] at sl1
    simp [cmpB1,i1,i0,l1,l0,iv,hwm,hlt,sl1,-ldv_ptr]
    rw [Cd_keep]
    simp at k1
    simp [k1,sl2]
    rw [c2]
    simp [sl3,hKe]
  · obtain ⟨cur',lo',hh⟩:=ih (k + 1) (by omega) (by omega)
    simp only [show k + 1 - 1 = k by omega] at hh
    refine ⟨cur',lo',?_⟩
    rw [key]
    have hyx:¬ y = x:=fun h=>hxy h.symm
    have hadd:k + (1 + chg (zs.drop k)) = k + 1 + chg (zs.drop k):=by omega
    simp only [hxy,if_false,hadd]
    simp [cmpB1,i1,i0,l1,l0,iv,hwm,hw,hlt,hyx,-ldv_ptr]
    simpa using hh
theorem S_compact {id:FuncId} (ht:T id = some (cmpQ kd)) (hv:val id = false) {zs:List Int} {b:Nat} {cap:Option Nat} {h:Hp} (hb:getB h.bs b = some (zs.map (iv kd))) (hn:zs.length < 2 ^ 62) :
 ∃ h',Sm E T val id [.row b 0 zs.length cap 1] h = some (.row b 0 (cmpN zs) cap 1,h') /\ (h' = h \/ ∃ cur,h' = ⟨h.bs.set b (.cells cur),min h.low b⟩):=by
 have hbl:=getB_len hb
 have hset:h.bs.set b (.cells (zs.map (iv kd))) = h.bs:=by
  apply List.ext_getElem?
  intro i
  by_cases hi:b = i
  · subst hi
    rw [List.getElem?_set_self hbl]
    unfold getB at hb
    split at hb
    · rename_i hh; cases hb; exact hh.symm
    · cases hb
  · rw [List.getElem?_set_ne hi]
 have hM:(⟨h.bs,h.bs.length⟩:Hp) = Mr h.bs b (zs.map (iv kd)) h.bs.length:=by simp [Mr,hset]
 rw [Sm_ref ht hv,hM]
 by_cases h2:zs.length < 2
 · refine ⟨h,?_,.inl rfl⟩
   have:cmpN zs = zs.length:=by
    match zs,h2 with
    | [],_=>rfl
    | [x],_=>rfl
    | _ :: _ :: _,h2=>simp at h2; omega
   simp [cmpQ,Bd_mk,show ((zs.length:Int) < 2) from by omega,this,V.under,hbl]
   simp [Mr]
 · have hne:zs ≠ []:=by rintro rfl; simp at h2
   obtain ⟨cur',lo',hh | hh⟩:=cmp_out (E:=E) (T:=T) (val:=val) (kd:=kd) (lo:=h.bs.length) (cap:=cap) hbl hn (zs.length - 1) 1 (by omega) (by omega)
   · obtain ⟨k1,k2,k3⟩:=hh
     have hlo:lo' = b:=by omega
     subst hlo
     refine ⟨_,?_,.inr ⟨cur',rfl⟩⟩
     simp at k1
     simp [cmpQ,Bd_mk,show ¬ ((zs.length:Int) < 2) from by omega]
     rw [Cd_keep]
     simp [k1,cmpN,hne,V.under,hbl]
     simp [Mr,show ¬ (h.bs.length <= lo') from by omega]
   · obtain ⟨k1,k2⟩:=hh
     refine ⟨h,?_,.inl rfl⟩
     simp at k1 k2
     simp [cmpQ,Bd_mk,show ¬ ((zs.length:Int) < 2) from by omega]
     rw [Cd_keep]
     simp [k1,cmpN,hne,V.under,hbl,k2]
     simp [Mr]
end
end Go.Proofs.YtmahnnnccohccaaGreat
namespace Go.Proofs.YtmahnnnccohccaaGreat
noncomputable def E1:Calls':=fun f args h=>match Nat.beq f 579 with
 | true=>sortE args h
 | false=>Sm (fun _ _ _=>none) TT valT f args h
def tabP:List (Nat × QF):=[(537,q385),(550,q372),(581,q445)]
def TP:FuncId -> Option QF:=lookT tabP
def valP (f:FuncId):Bool:=Nat.beq 537 f
theorem p385:TP 537 = some q385:=rfl
theorem p372:TP 550 = some (cloneQ 1 8 [(.d (.int .i64 0))]):=by kernel_rfl
theorem p445:TP 581 = some (cmpQ .i64):=by kernel_rfl
theorem p443:TP 579 = none:=rfl
theorem p438:TP 574 = none:=rfl
theorem p444:TP 580 = none:=rfl
theorem e443 {args:List V} {h:Hp}:Sm E1 TP valP 579 args h = sortE args h:=by rw [Sm_ext p443]; rfl
theorem e438 {args:List V} {h:Hp}:Sm E1 TP valP 574 args h = Sm (fun _ _ _=>none) TT valT 574 args h:=by rw [Sm_ext p438]; rfl
theorem e444 {args:List V} {h:Hp}:Sm E1 TP valP 580 args h = Sm (fun _ _ _=>none) TT valT 580 args h:=by rw [Sm_ext p444]; rfl
variable {E:Calls'}
def portMay (n:Int):Bool:=decide (n >= 1) && decide (n <= 65535)
theorem u474:TT 605 = some (anyQ 627):=t474
theorem u497:TT 627 = some idx1Q:=t497
theorem u475:TT 606 = some not1Q:=t475
theorem u444:TT 580 = some (allQ 605 606):=t444
theorem S444 (s:Sl Int) (hs:short s) (h:Hp):Sm E TT valT 580 [.d (i64 6),.d (s.d intC),.fn 422 []] h = some (bl (decide ((s.l.length:Int) <= 6) && s.l.all portMay),h) :=
 S_all1 (cell:=fun n=>i64 n) u497 v497 u474 v474 u475 v475 u444 v444 hs (fun e he h=>S299 e h) h
def targetMay (t:Target):Bool:=(termsMay t.methods && (termsMay t.paths && (termsMay t.hosts && true))) && (decide ((t.ports.l.length:Int) <= 6) && t.ports.l.all portMay) && ((cmpN (sortZ t.ports.l):Int) == (t.ports.l.length:Int))
theorem S_compact_nil {T:FuncId -> Option QF} {val:FuncId -> Bool} {kd:IntKind} {id:FuncId} (ht:T id = some (cmpQ kd)) (hv:val id = false) (h:Hp):Sm E T val id [.d (.slice true [])] h = some (.d (.slice true []),h):=by
 rw [Sm_ref ht hv]
 simp [cmpQ,Bd_mk,V.under]
theorem frz_rows {h:Hp} {b n:Nat} {cap:Option Nat} {ds:List D} (hb:getB h.bs b = some (ds.map .d)) (hn:n = ds.length):frz h (.row b 0 n cap 1) = some (.d (.slice false (ds.map fun d=>[d]))):=by
 have h1:getB h.bs b = some (flat (ds.map fun d=>[d]) ++ []):=by
  have hf:∀ l:List D,(l.map fun d=>[d]).flatten = l:=by
   intro l
   induction l with
   | nil=>rfl
   | cons d l ih=>simp only [List.map_cons,List.flatten_cons,ih]; rfl
  rw [hb,List.append_nil,flat,hf]
 have:=dataV_row (h:=h) (k:=7) (b:=b) (n:=n) (cap:=cap) (z:=1) (es:=ds.map fun d=>[d]) (rest:=[]) (by simp) (by simpa using hn) h1
 simp only [frz,frz1,this]
def rowsT (t:Target):Bool:=termsMay t.methods && (termsMay t.paths && (termsMay t.hosts && true))
def portsT (t:Target):Bool:=decide ((t.ports.l.length:Int) <= 6) && t.ports.l.all portMay
theorem R438 (t:Target) (ht:t.wf big) (b:Nat) (cap:Option Nat) (h:Hp) (hb:getB h.bs b = some [.d (t.methods.d Term.c),.d (t.paths.d Term.c),.d (t.hosts.d Term.c)]):Sm E TT valT 574 [.row b 0 3 cap 1] h = some (bl (rowsT t),h):=by
 refine S438 [t.methods,t.paths,t.hosts] (by simp) ?_ _ h (frz_rows (ds:=[t.methods.d Term.c,t.paths.d Term.c,t.hosts.d Term.c]) hb rfl)
 · intro s hs
   simp only [List.mem_cons,List.not_mem_nil,or_false] at hs
   rcases hs with rfl | rfl | rfl
   · exact ⟨ht.2.1.1,fun x hx=>(ht.2.1.2 x hx).2⟩
   · exact ⟨ht.2.2.1.1,fun x hx=>(ht.2.2.1.2 x hx).2⟩
   · exact ⟨ht.2.2.2.1,fun x hx=>(ht.2.2.2.2 x hx).2⟩
theorem S385_nil (t:Target) (ht:t.wf big) (hl:t.ports.l = []) (hnl:t.ports.nl = true) (h:Hp):Sm E1 TP valP 537 [ag t.c] h = some (bl (targetMay t),h):=by
 have hp:t.ports.d intC = .slice true []:=by simp [Sl.d,hl,hnl]
 have c1:=fun h=>S_cloneR (E:=E1) (T:=TP) (val:=valP) p372 rfl (by decide) (by decide) (nl:=true) (es:=[]) (by simp) (by simp) h
 have c3:=fun h=>S_compact_nil (E:=E1) (T:=TP) (val:=valP) p445 rfl h
 have c2:∀ h,sortE [.d (.slice true [])] h = some (.tup [],h):=fun _=>rfl
 have r1:=fun b cap h hb=>R438 (E:=fun _ _ _=>none) t ht b cap h hb
 have a1:=fun h=>S444 (E:=fun _ _ _=>none) t.ports ht.1.1 h
 rw [← hp] at c1
 have hlen:t.ports.l.length = 0:=by rw [hl]; rfl
 rw [Sm_v p385 rfl]
 have hT:targetMay t = (rowsT t && portsT t && true):=by simp [targetMay,rowsT,portsT,hl,cmpN,sortZ]
 rw [hT]
 simp [Bd_mk,q385,c1,cloneR,e443,c2]
 cases hR:rowsT t <;> cases hP:portsT t
 all_goals
  simp only [hR] at r1
  have a2:=hP
  unfold portsT at a2
  simp only [a2] at a1
  simp (decide:=true) [openA,opDE_call,e438,e444,r1,a1,c3,fillsE,noTr,hlen]
theorem flat_ints (l:List Int):flat (l.map intC) = intsV l:=by
 simp only [flat,intsV]
 induction l with
 | nil=>rfl
 | cons x l ih=>simp only [List.map_cons,List.flatten_cons,List.map_append,ih]; rfl
theorem ints_mapM (l:List Int):(intsV l).mapM asInt = some l:=by
 induction l with
 | nil=>rfl
 | cons x l ih =>
  simp only [intsV,List.map_cons,List.mapM_cons] at ih ⊢
  simp [ih,asInt]
theorem sortZ_len (l:List Int):(sortZ l).length = l.length:=List.length_mergeSort _
theorem S385_empty (t:Target) (ht:t.wf big) (hl:t.ports.l = []) (hnl:t.ports.nl = false) (h:Hp):Sm E1 TP valP 537 [ag t.c] h = some (bl (targetMay t),h):=by
 have hp:t.ports.d intC = .slice false []:=by simp [Sl.d,hl,hnl]
 have c1:=fun h=>S_cloneR (E:=E1) (T:=TP) (val:=valP) p372 rfl (by decide) (by decide) (nl:=false) (es:=[]) (by simp) (by simp) h
 have c3:=S_compact (E:=E1) (T:=TP) (val:=valP) p445 rfl (zs:=[]) (b:=1) (cap:=some 0) (h:=⟨[.cells (t.c.map .d),.cells [],.cells [.d (t.methods.d Term.c),.d (t.paths.d Term.c),.d (t.hosts.d Term.c)]],3⟩) (by simp) (by simp)
 have c2:∀ b c h,sortE [.row b 0 0 c 1] h = some (.tup [],h):=fun _ _ _=>rfl
 have r1:=fun b cap h hb=>R438 (E:=fun _ _ _=>none) t ht b cap h hb
 have a1:=fun h=>S444 (E:=fun _ _ _=>none) t.ports ht.1.1 h
 rw [← hp] at c1
 have hlen:t.ports.l.length = 0:=by rw [hl]; rfl
 rw [Sm_v p385 rfl]
 have hT:targetMay t = (rowsT t && portsT t && true):=by simp [targetMay,rowsT,portsT,hl,cmpN,sortZ]
 rw [hT]
 obtain ⟨h',c3,c4⟩:=c3
 simp [cmpN] at c3
 simp [Bd_mk,q385,c1,cloneR,e443,c2]
 cases hR:rowsT t <;> cases hP:portsT t
 all_goals
  simp only [hR] at r1
  have a2:=hP
  unfold portsT at a2
  simp only [a2] at a1
  rcases c4 with rfl | ⟨cur,rfl⟩ <;> simp (decide:=true) [openA,opDE_call,e438,e444,r1,a1,c3,fillsE,noTr,hlen]
theorem S385_some (t:Target) (ht:t.wf big) (hl:t.ports.l ≠ []) (h:Hp):Sm E1 TP valP 537 [ag t.c] h = some (bl (targetMay t),h):=by
 have hnl:t.ports.nl = false:=by
  cases hh:t.ports.nl with
  | false=>rfl
  | true=>exact absurd (ht.1.1.2 hh) hl
 have hsl:=sortZ_len t.ports.l
 have hne0:¬ t.ports.l.length = 0:=by simpa using hl
 have hlb:t.ports.l.length <= big:=ht.1.1.1
 have hp:t.ports.d intC = .slice false (t.ports.l.map intC):=by simp [Sl.d,hnl]
 have c1:∀ h,Sm E1 TP valP 550 [.d (t.ports.d intC)] h = some (.row (h.bs.length + 1) 0 t.ports.l.length none 1,⟨h.bs ++ [.cells [],.cells (intsV t.ports.l)],min h.low h.bs.length⟩):=by
  intro h
  have:=S_cloneR (E:=E1) (T:=TP) (val:=valP) p372 rfl (by decide) (by decide) (nl:=false) (es:=t.ports.l.map intC) (by simp [intC]) (by simpa using hlb) h
  rw [hp,this]
  have hf:=flat_ints t.ports.l
  revert hf hl
  cases t.ports.l with
  | nil=>intro hl; exact absurd rfl hl
  | cons x l =>
   intro _ hf
   simp only [List.map_cons] at hf
   simp [cloneR,hf]
 have c2:∀ lo,sortE [.row 2 0 t.ports.l.length none 1] ⟨[.cells (t.c.map .d),.cells [],.cells (intsV t.ports.l)],lo⟩ = some (.tup [],⟨[.cells (t.c.map .d),.cells [],.cells (intsV (sortZ t.ports.l))],min lo 2⟩):=by
  intro lo
  simp only [sortE,if_neg hne0,get_eq,getB_succ,getB_zero,ints_mapM]
  rw [if_pos ⟨trivial,hlb⟩]
  rfl
 have c3:=S_compact (E:=E1) (T:=TP) (val:=valP) p445 rfl (zs:=sortZ t.ports.l) (b:=2) (cap:=none) (h:=⟨[.cells (t.c.map .d),.cells [],.cells (intsV (sortZ t.ports.l)),.cells [.d (t.methods.d Term.c),.d (t.paths.d Term.c),.d (t.hosts.d Term.c)]],4⟩) (by simp; rfl) (by rw [hsl]; exact Nat.lt_of_le_of_lt hlb (by decide))
 have r1:=fun b cap h hb=>R438 (E:=fun _ _ _=>none) t ht b cap h hb
 have a1:=fun h=>S444 (E:=fun _ _ _=>none) t.ports ht.1.1 h
 rw [Sm_v p385 rfl]
 have hT:targetMay t = (rowsT t && portsT t && ((cmpN (sortZ t.ports.l):Int) == (t.ports.l.length:Int))):=rfl
 rw [hT]
 obtain ⟨h',c3,c4⟩:=c3
 rw [hsl] at c3
 generalize cmpN (sortZ t.ports.l) = K at *
 generalize intsV (sortZ t.ports.l) = Z at *
 generalize intsV t.ports.l = Z0 at *
 simp [Bd_mk,q385,c1,e443,c2]
 cases hR:rowsT t <;> cases hP:portsT t
 all_goals
  simp only [hR] at r1
  have a2:=hP
  unfold portsT at a2
  simp only [a2] at a1
  rcases c4 with rfl | ⟨cur,rfl⟩ <;> simp (decide:=true) [openA,opDE_call,e438,e444,r1,a1,c3,fillsE,noTr]
theorem S385 (t:Target) (ht:t.wf big) (h:Hp):Sm E1 TP valP 537 [ag t.c] h = some (bl (targetMay t),h):=by
 by_cases hl:t.ports.l = []
 · cases hnl:t.ports.nl with
   | true=>exact S385_nil t ht hl hnl h
   | false=>exact S385_empty t ht hl hnl h
 · exact S385_some t ht hl h
end Go.Proofs.YtmahnnnccohccaaGreat
namespace Go.Proofs.YtmahnnnccohccaaGreat
variable {E:Calls'}
theorem u469:TT 600 = some (anyQ 617):=t469
theorem u487:TT 617 = some (idxQ 2):=t487
theorem u470:TT 601 = some (notQ 2):=t470
theorem u439:TT 575 = some (allQ 600 601):=t439
theorem u436:TT 572 = some (anyQ 596):=t436
theorem u465:TT 596 = some (idxQ 3):=t465
theorem u437:TT 573 = some (notQ 3):=t437
theorem u382:TT 534 = some (allQ 572 573):=t382
theorem u441:TT 577 = some (anyQ 603):=t441
theorem u472:TT 603 = some (idxQ 4):=t472
theorem u442:TT 578 = some (notQ 4):=t442
theorem u384:TT 536 = some (allQ 577 578):=t384
theorem u446:TT 582 = some (anyQ 607):=t446
theorem u476:TT 607 = some (idxQ 2):=t476
theorem u447:TT 583 = some (notQ 2):=t447
theorem u386:TT 538 = some (allQ 582 583):=t386
theorem u380:TT 532 = some (anyQ 571):=t380
theorem u435:TT 571 = some (idxQ 3):=t435
theorem u381:TT 533 = some (notQ 3):=t381
theorem u341:TT 462 = some (allQ 532 533):=t341
theorem n385:TT 537 = none:=by kernel_rfl
def netsMay (s:Sl Cidr):Bool:=decide ((s.l.length:Int) <= 6) && s.l.all cidrMay
theorem S439 (s:Sl Cidr) (hs:short s) (h:Hp):Sm E TT valT 575 [.d (i64 6),.d (s.d Cidr.c),.fn 576 []] h = some (bl (netsMay s),h) :=
 S_all (cells:=Cidr.c) u487 v487 u469 v469 u470 v470 u439 v439 (fun _=>rfl) hs (fun e he h=>S440 e h) h
def sourceMay (s:Source):Bool:=(termsMay s.names && (termsMay s.spaces && true)) && netsMay s.nets
theorem S383 (s:Source) (hs:s.wf big) (h:Hp):Sm E TT valT 535 [ag s.c] h = some (bl (sourceMay s),h):=by
 have r1:∀ b cap h,getB h.bs b = some [.d (s.names.d Term.c),.d (s.spaces.d Term.c)] -> Sm E TT valT 574 [.row b 0 2 cap 1] h = some (bl ([s.names,s.spaces].all termsMay),h):=by
  intro b cap h hb
  refine S438 [s.names,s.spaces] (by simp) ?_ _ h (frz_rows (ds:=[s.names.d Term.c,s.spaces.d Term.c]) hb rfl)
  intro x hx
  simp only [List.mem_cons,List.not_mem_nil,or_false] at hx
  rcases hx with rfl | rfl
  · exact ⟨hs.1.1,fun x hx=>(hs.1.2 x hx).2⟩
  · exact ⟨hs.2.1.1,fun x hx=>(hs.2.1.2 x hx).2⟩
 have a1:=fun h=>S439 (E:=E) s.nets hs.2.2.1 h
 have hT:sourceMay s = ([s.names,s.spaces].all termsMay && netsMay s.nets):=rfl
 rw [hT]
 generalize [s.names,s.spaces].all termsMay = A at *
 generalize netsMay s.nets = B at *
 rw [Sm_v t383 v383]
 cases A <;> simp (decide:=true) [Bd_mk,q383,openA,opDE_call,r1,a1,fillsE,noTr]
def whenMay (w:When):Bool:=headMay w.head && (termsMay w.terms && true) && decide ((w.terms.l.length:Int) > 0)
theorem S387 (w:When) (hw:w.wf big) (h:Hp):Sm E TT valT 539 [ag w.c] h = some (bl (whenMay w),h):=by
 have r1:∀ b cap h,getB h.bs b = some [.d (w.terms.d Term.c)] -> Sm E TT valT 574 [.row b 0 1 cap 1] h = some (bl ([w.terms].all termsMay),h):=by
  intro b cap h hb
  refine S438 [w.terms] (by simp) ?_ _ h (frz_rows (ds:=[w.terms.d Term.c]) hb rfl)
  intro x hx
  simp only [List.mem_cons,List.not_mem_nil,or_false] at hx
  subst hx
  exact ⟨hw.2.1,fun x hx=>(hw.2.2 x hx).2⟩
 have a1:=fun h=>S448 (E:=E) w.head hw.1 h
 have hT:whenMay w = (headMay w.head && [w.terms].all termsMay && decide ((w.terms.l.length:Int) > 0)):=rfl
 rw [hT]
 generalize [w.terms].all termsMay = A at *
 generalize headMay w.head = B at *
 rw [Sm_v t387 v387]
 cases B <;> cases A <;> simp (decide:=true) [Bd_mk,q387,openA,opDE_call,r1,a1,fillsE,noTr]
def ruleMay (r:Rule):Bool:=(decide ((r.frm.l.length:Int) <= 3) && r.frm.l.all sourceMay) && (decide ((r.to.l.length:Int) <= 3) && r.to.l.all targetMay) && (decide ((r.whn.l.length:Int) <= 3) && r.whn.l.all whenMay)
section
variable (h385:∀ t:Target,t.wf big -> ∀ h,E 537 [ag t.c] h = some (bl (targetMay t),h))
include h385
theorem S385' (t:Target) (ht:t.wf big) (h:Hp):Sm E TT valT 537 [ag t.c] h = some (bl (targetMay t),h):=by rw [Sm_ext n385]; exact h385 t ht h
theorem S342 (r:Rule) (hr:r.wf big) (h:Hp):Sm E TT valT 463 [ag r.c] h = some (bl (ruleMay r),h):=by
 have k1:=fun h=>S_all (E:=E) (T:=TT) (val:=valT) (cells:=Source.c) u465 v465 u436 v436 u437 v437 u382 v382 (fun _=>rfl) (s:=r.frm) hr.1.1 (m:=3) (f:=535) (p:=sourceMay) (fun e he h=>S383 e (hr.1.2 e he) h) h
 have k2:=fun h=>S_all (E:=E) (T:=TT) (val:=valT) (cells:=Target.c) u472 v472 u441 v441 u442 v442 u384 v384 (fun _=>rfl) (s:=r.to) hr.2.1.1 (m:=3) (f:=537) (p:=targetMay) (fun e he h=>S385' h385 e (hr.2.1.2 e he) h) h
 have k3:=fun h=>S_all (E:=E) (T:=TT) (val:=valT) (cells:=When.c) u476 v476 u446 v446 u447 v447 u386 v386 (fun _=>rfl) (s:=r.whn) hr.2.2.1 (m:=3) (f:=539) (p:=whenMay) (fun e he h=>S387 e (hr.2.2.2 e he) h) h
 unfold ruleMay
 generalize (decide ((r.frm.l.length:Int) <= 3) && r.frm.l.all sourceMay) = A at *
 generalize (decide ((r.to.l.length:Int) <= 3) && r.to.l.all targetMay) = B at *
 generalize (decide ((r.whn.l.length:Int) <= 3) && r.whn.l.all whenMay) = C at *
 rw [Sm_v t342 v342]
 cases A <;> cases B <;> simp (decide:=true) [Bd_mk,q342,openA,opDE_call,k1,k2,k3,noTr]
def polMay (p:Pol):Bool:=decide (p.id >= 1) && decide (p.id <= 4611686018427387903) && (eqS p.ns ⟨#[]⟩ || labelMay p.ns) && decide (p.service <= 4611686018427387903) && ((p.deny == 0) || (p.deny == 1)) && (decide ((p.rules.l.length:Int) <= 6) && p.rules.l.all ruleMay)
theorem S263 (p:Pol) (hp:p.wf big) (h:Hp):Sm E TT valT 378 [ag p.c] h = some (bl (polMay p),h):=by
 have k1:=fun h=>S_all (E:=E) (T:=TT) (val:=valT) (cells:=Rule.c) u435 v435 u380 v380 u381 v381 u341 v341 (fun _=>rfl) (s:=p.rules) hp.2.2.2.2.1 (m:=6) (f:=463) (p:=ruleMay) (fun e he h=>S342 h385 e (hp.2.2.2.2.2 e he) h) h
 have k2:=fun h=>S305 (E:=E) p.ns hp.2.1 h
 unfold polMay
 generalize (decide ((p.rules.l.length:Int) <= 6) && p.rules.l.all ruleMay) = A at *
 generalize labelMay p.ns = B at *
 have ho:eqS p.ns ⟨#[]⟩ = eqS p.ns ⟨#[]⟩:=rfl
 rw [Sm_v t263 v263]
 by_cases c1:p.id >= 1
 case neg=>simp (decide:=true) [Bd_mk,q263,openA,opDE_call,noTr,c1]
 by_cases c2:p.id <= 4611686018427387903
 case neg=>simp (decide:=true) [Bd_mk,q263,openA,opDE_call,noTr,c1,c2]
 cases c3:eqS p.ns ⟨#[]⟩
 case false =>
  cases B
  case false=>simp (decide:=true) [Bd_mk,q263,openA,opDE_call,noTr,c1,c2,c3,k2]
  by_cases c4:p.service <= 4611686018427387903
  case neg=>simp (decide:=true) [Bd_mk,q263,openA,opDE_call,noTr,c1,c2,c3,k2,c4]
  by_cases c5:p.deny = 0
  case pos=>simp (decide:=true) [Bd_mk,q263,openA,opDE_call,noTr,c1,c2,c3,k2,c4,c5,k1]
  by_cases c6:p.deny = 1 <;> simp (decide:=true) [Bd_mk,q263,openA,opDE_call,noTr,c1,c2,c3,k2,c4,c5,c6,k1]
 case true =>
  by_cases c4:p.service <= 4611686018427387903
  case neg=>simp (decide:=true) [Bd_mk,q263,openA,opDE_call,noTr,c1,c2,c3,k2,c4]
  by_cases c5:p.deny = 0
  case pos=>simp (decide:=true) [Bd_mk,q263,openA,opDE_call,noTr,c1,c2,c3,k2,c4,c5,k1]
  by_cases c6:p.deny = 1 <;> simp (decide:=true) [Bd_mk,q263,openA,opDE_call,noTr,c1,c2,c3,k2,c4,c5,c6,k1]
end
end Go.Proofs.YtmahnnnccohccaaGreat
namespace Go.Proofs.YtmahnnnccohccaaGreat
def risesL:List Int -> Bool
 | x :: y :: l=>decide (x < y) && risesL (y :: l)
 | _=>true
theorem risesL_drop {l:List Int} {i:Nat} (h:i + 1 < l.length):risesL (l.drop i) = (decide (l[i] < l[i + 1]) && risesL (l.drop (i + 1))):=by
 rw [List.drop_eq_getElem_cons (show i < l.length by omega),List.drop_eq_getElem_cons h]
 simp only [risesL]
theorem risesL_end {l:List Int} {i:Nat} (h:l.length <= i + 1):risesL (l.drop i) = true:=by
 have:(l.drop i).length <= 1:=by simp only [List.length_drop]; omega
 match l.drop i,this with
 | [],_=>rfl
 | [_],_=>rfl
 | _ :: _ :: _,h=>simp at h
theorem ix_data {α:Type} {cells:α -> List D} {z:Nat} (hz:∀ x,(cells x).length = z) {s:Sl α} {i:Nat} (hi:i < s.l.length) {kd:IntKind} {h:Hp}:idxv none z (.d (s.d cells)) (.d (.int kd i)) h = some (.eptr (cells s.l[i]) 0,h):=by
 simp [idxv,Sl.d,hi,hz]
section
variable {E:Calls'} {T:FuncId -> Option QF} {val:FuncId -> Bool}
theorem S_some {con id:FuncId} (ht:T id = some (someQ con)) (hv:val id = false) {v:V} {f:FuncId} {caps:List V} {b:Bool} {h:Hp} (hnu:nu v = some v) (hok:okV v = true) (hc:Sm E T val con [v,.fn f caps] ⟨h.bs,h.bs.length⟩ = some (bl b,⟨h.bs,h.bs.length⟩)) :
 Sm E T val id [v,.fn f caps] h = some (bl b,h):=by
 rw [Sm_ref ht hv]
 simp [someQ,Bd_mk,hnu,hok,hc,V.under]
end
end Go.Proofs.YtmahnnnccohccaaGreat
namespace Go.Proofs.YtmahnnnccohccaaGreat
variable {E:Calls'}
def svcBy (c:Cfg) (n:Int):Option Svc:=c.services.l.find? fun p=>p.id == n
def podBad1 (c:Cfg) (p:Pod):Bool:=decide (p.uid < 10) || (decide (p.uid >= c.next) || !(labelMay p.ns && labelMay p.sa))
def podBad2 (c:Cfg) (p:Pod):Bool:=decide (p.host < 2) || (decide (p.host > IntKind.wrap .i64 (c.hosts + 1)) || !portMay p.port)
def podBad3 (c:Cfg) (p:Pod):Bool:=!(p.service == 0) && (match svcBy c p.service with | some s=>!eqS s.ns p.ns | none=>true)
def podBad (c:Cfg) (p:Pod):Bool:=podBad1 c p || (podBad2 c p || podBad3 c p)
def podsMay (c:Cfg):Bool:=!c.pods.l.any (podBad c) && risesL (c.pods.l.map Pod.uid)
end Go.Proofs.YtmahnnnccohccaaGreat
namespace Go.Proofs.YtmahnnnccohccaaGreat
variable {E:Calls'}
def cntMay (n:Int):Bool:=decide (n >= 1) && decide (n <= 4611686018427387903)
def svcBad (c:Cfg) (s:Svc):Bool:=!cntMay s.id || (!labelMay s.ns || (!portMay s.port || !((s.way == 0) || c.bound.l.any fun w=>w.id == s.way)))
def servicesMay (c:Cfg):Bool:=!c.services.l.any (svcBad c) && risesL (c.services.l.map Svc.id)
def polBad (c:Cfg) (p:Pol):Bool:=decide (p.id < 1) || (!polMay p || (!(p.service == 0) && (svcBy c p.service).isNone))
section
variable (h385:∀ t:Target,t.wf big -> ∀ h,E 537 [ag t.c] h = some (bl (targetMay t),h))
include h385
def policiesMay (c:Cfg):Bool:=!c.policies.l.any (polBad c) && risesL (c.policies.l.map Pol.id)
end
end Go.Proofs.YtmahnnnccohccaaGreat
namespace Go.Proofs.YtmahnnnccohccaaGreat
variable {E:Calls'}
def wayBad (c:Cfg) (pre:List Way) (w:Way):Bool:=!cntMay w.id || (decide (w.node < IntKind.wrap .i64 (c.hosts + 2)) || (decide (w.node > IntKind.wrap .i64 (IntKind.wrap .i64 (c.hosts + 1) + c.ways)) || pre.any fun v=>v.node == w.node))
def waysBad (c:Cfg):List Way -> List Way -> Bool
 | _,[]=>false
 | pre,w :: l=>wayBad c pre w || waysBad c (pre ++ [w]) l
def boundMay (c:Cfg):Bool:=!waysBad c [] c.bound.l && risesL (c.bound.l.map Way.id)
end Go.Proofs.YtmahnnnccohccaaGreat
namespace Go.Proofs.YtmahnnnccohccaaGreat
variable {E:Calls'}
structure Ar (c:Cfg) (acc:List Int) (bs:List Blk) (v:V):Prop where
 c0:getB bs 0 = some (c.c.map .d)
 is:∃ b cap,0 < b /\ v = .row b 0 acc.length cap 1 /\ getB bs b = some (acc.map (iv .u32)) /\ (cap = none \/ cap = some acc.length)
 ne:acc ≠ []
theorem Ar.nu {c:Cfg} {acc:List Int} {bs:List Blk} {v:V} (h:Ar c acc bs v):Go.Proofs.YtmahnnnccohccaaGreat.nu v = some v:=by
 obtain ⟨b,cap,_,rfl,_⟩:=h.is; rfl
theorem Ar.lay {c:Cfg} {acc:List Int} {bs:List Blk} {v:V} (h:Ar c acc bs v) (ys:List Blk):Ar c acc (bs ++ ys) v:=by
 obtain ⟨b,cap,k1,k2,k3,k4⟩:=h.is
 exact ⟨getB_of h.c0,⟨b,cap,k1,k2,getB_of k3,k4⟩,h.ne⟩
theorem Ar.app {c:Cfg} {acc:List Int} {bs:List Blk} {v:V} (h:Ar c acc bs v) (hl:acc.length < big) (lo:Nat) {x:Int} {r:Nat} {cap:Option Nat} (hr:getB bs r = some [iv .u32 x]) :
 ∃ v' bs' lo',appv ⟨bs,lo⟩ 1 4 v (.row r 0 1 cap 1) = some (v',⟨bs',lo'⟩) /\ Ar c (acc ++ [x]) bs' v':=by
 obtain ⟨b,cp,k1,rfl,k3,k4⟩:=h.is
 have hbl:=getB_len k3
 have h0l:=getB_len h.c0
 have hrc:rowCells ⟨bs,lo⟩ (.row r 0 1 cap 1) 1 = some (1,[iv .u32 x]):=by
  simp only [rowCells,if_true,get_eq,hr]; rfl
 have hsub:sub (acc.map (iv .u32)) 0 (acc.length * 1) = some (acc.map (iv .u32)):=sub_all (by simp)
 have hroom:roomy (acc.length + 1) 4 = true:=by
  simp only [roomy,Bool.and_eq_true,decide_eq_true_eq]; exact ⟨hl,by decide⟩
 have hpos:0 < acc.length:=List.length_pos_iff.2 h.ne
 have hcs:(acc.map (iv .u32)) ++ [iv .u32 x] = (acc ++ [x]).map (iv .u32):=by simp
 rcases k4 with rfl | rfl
 · refine ⟨.row bs.length 0 (acc.length + 1) none 1,bs.set b (.cells []) ++ [.cells ((acc ++ [x]).map (iv .u32))],min lo b,?_,⟨?_,?_,by simp⟩⟩
   · simp only [appv,hrc,appendAt,get_eq,k3,hsub,hroom]
     simp [hpos,Hp.set]
   · refine getB_of ?_
     have:=h.c0
     unfold getB at this ⊢
     rw [List.getElem?_set_ne (by omega)]; exact this
   · exact ⟨bs.length,none,by omega,by simp,by have:=getB_at (bs:=bs.set b (.cells [])) (ys:=[.cells ((acc ++ [x]).map (iv .u32))]); simp only [List.length_set] at this; rw [this]; rfl,.inl rfl⟩
 · refine ⟨.row bs.length 0 (acc.length + 1) none 1,bs ++ [.cells ((acc ++ [x]).map (iv .u32))],lo,?_,⟨getB_of h.c0,?_,by simp⟩⟩
   · simp only [appv,hrc,appendAt,get_eq,k3,hsub,hroom]
     simp
     intro hh; omega
   · exact ⟨bs.length,none,by omega,by simp,by rw [getB_at]; rfl,.inl rfl⟩
def dup:List Int -> List Int -> Bool
 | _,[]=>false
 | pre,x :: l=>(pre.any fun y=>x == y) || dup (pre ++ [x]) l
def addrsMay (c:Cfg):Bool:=!dup [] (0 :: (c.pods.l.map Pod.addr ++ c.services.l.map Svc.addr))
end Go.Proofs.YtmahnnnccohccaaGreat
namespace Go.Proofs.YtmahnnnccohccaaGreat
variable {E:Calls'}
def smallT (c:Cfg):Bool:=decide ((c.pods.l.length:Int) <= 16) && decide ((c.services.l.length:Int) <= 6) && decide ((c.bound.l.length:Int) <= 4) && decide ((c.policies.l.length:Int) <= 12)
def numsT (c:Cfg):Bool:=decide (c.epoch <= 4611686018427387903) && decide (c.next >= 10) && decide (c.next <= 4611686018427387904) && decide (c.hosts >= 1) && decide (c.hosts <= 4) && decide (c.ways >= 0) && decide (c.ways <= 4)
def mayT (c:Cfg):Bool:=numsT c && podsMay c && servicesMay c && addrsMay c && boundMay c && policiesMay c
end Go.Proofs.YtmahnnnccohccaaGreat
