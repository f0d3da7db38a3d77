/- slices.Compact at numbers, on a row of one's own. -/
import Derived.Test.YtjkfknafpgfchaaGreatQt
import Derived.Test.YtjkfknafpgfchaaGreatGn
import Derived.Test.YtjkfknafpgfchaaGreatSa
import Derived.Test.YtjkfknafpgfchaaGreatGd
import Derived.Test.YtjkfknafpgfchaaGreatMa
import Derived.Test.YtjkfknafpgfchaaGreatSx
import Derived.Test.YtjkfknafpgfchaaGreatWf
set_option maxRecDepth 100000
set_option linter.unusedVariables false
set_option linter.unusedSimpArgs false
namespace Go.Proofs.YtjkfknafpgfchaaGreat
section
def chg:List Int -> Nat
 | x :: y :: l=>(if x = y then 0 else 1) + chg (y :: l)
 | _=>0
theorem ve:∀ l:List Int,chg l <= l.length - 1
 | []=>by simp [chg]
 | [_]=>by simp [chg]
 | x :: y :: l=>by
  have:=ve (y :: l);simp only [chg,List.length_cons] at this ⊢;split <;> omega
theorem wS {zs:List Int} {i:Nat} (h:i + 1 < zs.length):chg (zs.drop i) = (if zs[i] = zs[i + 1] then 0 else 1) + chg (zs.drop (i + 1)):=by
 rw [List.drop_eq_getElem_cons (show i < zs.length by omega),List.drop_eq_getElem_cons h];simp only [chg]
def rT (zs:List Int):Nat:=if zs = [] then 0 else 1 + chg zs
def iv (kd:IntKind) (z:Int):V:=.d (.int kd z)
def Mr (bs:List Blk) (b:Nat) (cur:List V) (lo:Nat):Hp:=⟨bs.set b (.cells cur),lo⟩
section
variable {bs:List Blk} {b lo:Nat} {cur:List V}
theorem za (hb:b < bs.length):ah (Mr bs b cur lo).bs b = some cur:=by simp [Mr,ah,hb]
theorem Bz (hb:b < bs.length) {k:Nat} {v:V} (hk:cur[k]? = some v):ldv (Mr bs b cur lo) (.ptr b k) 1 true = some (v,Mr bs b cur lo):=by
 obtain ⟨h1,h2⟩:=List.getElem?_eq_some_iff.1 hk;have hs:sub cur k 1 = some [v]:=by
  rw [gP,if_pos (by omega),List.drop_eq_getElem_cons h1,h2]; rfl
 rw [fT,get_eq,za hb];simp only [hs]; rfl
theorem WT (hb:b < bs.length) {k:Nat} {x:D} (hk:k < cur.length):stv (Mr bs b cur lo) (.ptr b k) (.d x) 1 = some (.undef,Mr bs b (cur.set k (.d x)) (min lo b)):=by
 have hp:put cur k [V.d x] = some (cur.set k (.d x)):=by
  unfold put;rw [if_pos (by simp only [List.length_cons,List.length_nil]; omega),List.set_eq_take_append_cons_drop,if_pos hk]; simp
 have hg:=za (lo:=lo) (cur:=cur) hb;simp [stv,V.cells,storeAt,hg,hp];simp [Hp.set,Mr]
theorem kZ {b o n z:Nat} {cap:Option Nat} {kd:IntKind} {i:Nat} {h:Hp} (hi:i < n):fP none z (.row b o n cap z) (.d (.int kd i)) h = some (.ptr b (o + i * z),h):=by
 simp [fP,hi]
end
section
variable {E:Calls'} {T:FuncId -> Option QF} {val:FuncId -> Bool} {kd:IntKind}
theorem QX {bs:List Blk} {b:Nat} (hb:b < bs.length) {zs:List Int} {cap cap2:Option Nat} (hn:zs.length < 2 ^ 62) {k0:Nat} (hk0:1 <= k0) (hk1:k0 < zs.length):∀ (m i k:Nat) (cur:List V) (lo:Nat),k0 + i + m = zs.length -> 1 <= i -> k < k0 + i -> cur.length = zs.length -> (∀ j (hj:j < zs.length),k <= j -> cur[j]? = some (iv kd zs[j])) →
 ∃ cur' lo',Cd E T val (.loop [0,3,4,5] (rR kd)) [(0,.row b 0 zs.length cap 1),(3,.d (i64 k)),(4,.row b k0 (zs.length - k0) cap2 1),(5,.d (i64 i))] (Mr bs b cur lo) =
  some (.exit 2,[(0,.row b 0 zs.length cap 1),(3,.d (i64 (k + chg (zs.drop (k0 + i - 1)):Nat)))],Mr bs b cur' lo') /\ cur'.length = zs.length /\ (lo' = lo \/ lo' = min lo b):=by
 intro m;have key:=ax (E:=E) (T:=T) (val:=val) [0,3,4,5] (rR kd);generalize Cd E T val (.loop [0,3,4,5] (rR kd)) = W at key ⊢
 induction m with
 | zero =>
  intro i k cur lo hi h1 hk hl hc;have h0:chg (zs.drop (k0 + i - 1)) = 0:=by
   have:=ve (zs.drop (k0 + i - 1));simp only [List.length_drop] at this;omega
  refine ⟨cur,lo,?_,hl,.inl rfl⟩;rw [key,h0];simp [rR,show ¬ ((i:Int) < ((zs.length - k0:Nat):Int)) from by omega]
 | succ m ih =>
  intro i k cur lo hi h1 hk hl hc;have hlt:i < zs.length - k0:=by omega
  have e1:=hc (k0 + i) (by omega) (by omega);have e0:=hc (k0 + i - 1) (by omega) (by omega);have hd:=wS (zs:=zs) (i:=k0 + i - 1) (by omega);have hs:k0 + i - 1 + 1 = k0 + i:=by omega
  simp only [hs] at hd;rw [hd];have hw:=aK (show i < zs.length by omega) hn;have hwk:=aK (show k < zs.length by omega) hn;have hwm:IntKind.wrap .i64 ((i:Int) - 1) = ((i - 1:Nat):Int):=by rw [wrap64] <;> omega
  have i1:=fun h=>kZ (b:=b) (o:=k0) (z:=1) (cap:=cap2) (kd:=.i64) (h:=h) hlt;have i0:=fun h=>kZ (b:=b) (o:=k0) (z:=1) (cap:=cap2) (kd:=.i64) (h:=h) (show i - 1 < zs.length - k0 by omega);have ik:=fun h=>kZ (b:=b) (o:=0) (z:=1) (cap:=cap) (kd:=.i64) (h:=h) (show k < zs.length by omega);simp only [Nat.mul_one,show k0 + (i - 1) = k0 + i - 1 by omega,Nat.zero_add] at i1 i0 ik;have l1:=Bz (lo:=lo) hb e1;have l0:=Bz (lo:=lo) hb e0;generalize zs[k0 + i]'(by omega) = y at *;generalize zs[k0 + i - 1]'(by omega) = x at *;by_cases hxy:x = y
  · obtain ⟨cur',lo',k1,k2,k3⟩:=ih (i + 1) k cur lo (by omega) (by omega) (by omega) hl hc;refine ⟨cur',lo',?_,k2,k3⟩;rw [key];simp only [hxy,if_true,Nat.zero_add];simp only [show k0 + (i + 1) - 1 = k0 + i by omega] at k1;subst hxy;simp [rR,i1,i0,l1,l0,iv,hw,hwm,show ((i:Int) < ((zs.length - k0:Nat):Int)) from by omega,-fT];simpa using k1
  · have st:=WT (lo:=lo) (x:=.int kd y) hb (show k < cur.length by omega);obtain ⟨cur',lo',k1,k2,k3⟩:=ih (i + 1) (k + 1) (cur.set k (.d (.int kd y))) (min lo b) (by omega) (by omega) (by omega) (by simpa using hl) (by
     intro j hj hkj;rw [List.getElem?_set_ne (by omega)];exact hc j hj (by omega))
    refine ⟨cur',lo',?_,k2,by rcases k3 with k3 | k3 <;> omega⟩;rw [key];simp only [hxy,if_false];simp only [show k0 + (i + 1) - 1 = k0 + i by omega] at k1;have hyx:¬ y = x:=fun h=>hxy h.symm;simp [rR,i1,i0,ik,l1,l0,st,iv,hw,hwk,hwm,hyx,show ((i:Int) < ((zs.length - k0:Nat):Int)) from by omega,-fT,-NT];rw [show ((k:Int) + (1 + (chg (zs.drop (k0 + i)):Int))) = ((k + 1 + chg (zs.drop (k0 + i)):Nat):Int) by omega];simpa using k1
theorem FD {h:Hp} {ev:X -> V} {b n:Nat} {cap:Option Nat} {x:X} {k:Nat} (hx:ev x = .d (i64 k)) (hk:k < n) (h1:1 <= k):bP h ev .sl 1 (.row b 0 n cap 1) (some x) none none = some (.row b k (n - k) (cap.map (· - k)) 1):=by
 simp only [bP,bQ,hx];rw [if_pos (by omega)];simp only [Int.toNat_natCast];rw [if_pos ⟨by omega,by omega,trivial⟩,if_neg (by omega),if_pos hk]; simp
theorem Ka {C:Calls'} {bs:List Blk} {b lo:Nat} {cur:List V} (hb:b < bs.length) {n k:Nat} {cap:Option Nat} {e:EA} {x:X} {zero:V} (he:x.ea e = .row b k (n - k) cap 1) (hc:cur.length = n) (hk:k < n) :
 ∃ cur',cur'.length = n /\ opE C (.clear 1 [zero] x) (X.ea e) (Mr bs b cur lo) = some (.undef,Mr bs b cur' (min lo b)):=by
 have hr:((List.replicate (n - k) [zero]).flatten).length = n - k:=by simp
 have hp:put cur k (List.replicate (n - k) [zero]).flatten = some (cur.take k ++ (List.replicate (n - k) [zero]).flatten ++ cur.drop (k + (n - k))):=by
  unfold put;rw [if_pos (by rw [hr]; omega),hr]
 refine ⟨cur.take k ++ (List.replicate (n - k) [zero]).flatten ++ cur.drop (k + (n - k)),by simp only [List.length_append,hr,List.length_take,List.length_drop]; omega,?_⟩;have hne:¬ (n - k) * 1 = 0:=by omega
 simp only [opE,he,if_true,get_eq,za hb,if_neg hne,hp];simp [Hp.set,Mr]
theorem Kb {bs:List Blk} {b lo:Nat} (hb:b < bs.length) {zs:List Int} {cap:Option Nat} (hn:zs.length < 2 ^ 62):∀ (m k:Nat),k + m = zs.length -> 1 <= k →
 ∃ cur' lo',(Cd E T val (.loop [0,3] (qp kd)) [(0,.row b 0 zs.length cap 1),(3,.d (i64 k))] (Mr bs b (zs.map (iv kd)) lo) = some (.ret,[(2,.row b 0 (k + chg (zs.drop (k - 1))) cap 1)],Mr bs b cur' lo') /\ cur'.length = zs.length /\ lo' = min lo b ∨
  Cd E T val (.loop [0,3] (qp kd)) [(0,.row b 0 zs.length cap 1),(3,.d (i64 k))] (Mr bs b (zs.map (iv kd)) lo) = some (.exit 0,[(0,.row b 0 zs.length cap 1)],Mr bs b (zs.map (iv kd)) lo) /\ k + chg (zs.drop (k - 1)) = zs.length):=by
 intro m;have key:=ax (E:=E) (T:=T) (val:=val) [0,3] (qp kd);generalize Cd E T val (.loop [0,3] (qp kd)) = W at key ⊢
 induction m with
 | zero =>
  intro k hk h1;have h0:chg (zs.drop (k - 1)) = 0:=by
   have:=ve (zs.drop (k - 1));simp only [List.length_drop] at this;omega
  refine ⟨[],0,.inr ⟨?_,by omega⟩⟩;rw [key];simp [qp,show ¬ ((k:Int) < (zs.length:Int)) from by omega]
 | succ m ih =>
  intro k hk h1;have hlt:k < zs.length:=by omega
  have e1:(zs.map (iv kd))[k]? = some (iv kd zs[k]):=by simp [hlt]
  have e0:(zs.map (iv kd))[k - 1]? = some (iv kd (zs[k - 1]'(by omega))):=by rw [List.getElem?_map,List.getElem?_eq_getElem (show k - 1 < zs.length by omega)]; rfl
  have hd:=wS (zs:=zs) (i:=k - 1) (by omega);have hs:k - 1 + 1 = k:=by omega
  simp only [hs] at hd;have hw:=aK hlt hn;have hwm:IntKind.wrap .i64 ((k:Int) - 1) = ((k - 1:Nat):Int):=by rw [wrap64] <;> omega
  have i1:=fun h=>kZ (b:=b) (o:=0) (z:=1) (cap:=cap) (kd:=.i64) (h:=h) hlt;have i0:=fun h=>kZ (b:=b) (o:=0) (z:=1) (cap:=cap) (kd:=.i64) (h:=h) (show k - 1 < zs.length by omega);simp only [Nat.mul_one,Nat.zero_add] at i1 i0;have l1:=Bz (lo:=lo) hb e1;have l0:=Bz (lo:=lo) hb e0;have hin:=QX (E:=E) (T:=T) (val:=val) (kd:=kd) hb (zs:=zs) (cap:=cap) (cap2:=cap.map (· - k)) hn h1 hlt (zs.length - k - 1) 1 k (zs.map (iv kd)) lo (by omega) (by omega) (by omega) (by simp) (fun j hj _=>by simp [hj]);have hcl:=ve (zs.drop k);simp only [List.length_drop] at hcl;rw [hd];generalize zs[k]'(by omega) = y at *;generalize zs[k - 1]'(by omega) = x at *;by_cases hxy:x = y
  · obtain ⟨cur',lo',k1,k2,k3⟩:=hin;simp only [show k + 1 - 1 = k by omega] at k1;have hK:k + chg (zs.drop k) < zs.length:=by omega
    generalize hKe:k + chg (zs.drop k) = K at *;obtain ⟨cur2,c1,c2⟩:=Ka (C:=Sm E T val) (lo:=lo') hb (cur:=cur') (e:=[(56,.row b K (zs.length - K) (cap.map (· - K)) 1),(55,.d (i64 K)),(54,.row b 0 zs.length cap 1),(0,.row b 0 zs.length cap 1),(3,.d (i64 K))]) (x:=.t 56) (n:=zs.length) (k:=K) (cap:=cap.map (· - K)) (zero:=.d (.int kd 0)) (by simp) k2 hK;have sl1:=fun h=>FD (h:=h) (ev:=X.ea [(27,.d (i64 k)),(26,.row b 0 zs.length cap 1),(25,.d (.bool true)),(24,iv kd x),(23,.ptr b (k - 1)),(22,.d (i64 (k - 1:Nat))),(21,.d (i64 k)),(20,.row b 0 zs.length cap 1),(19,iv kd y),(18,.ptr b k),(17,.d (i64 k)),(16,.row b 0 zs.length cap 1),(13,.d (.bool true)),(12,.d (i64 zs.length)),(11,.row b 0 zs.length cap 1),(10,.d (i64 k)),(0,.row b 0 zs.length cap 1),(3,.d (i64 k))]) (x:=.t 27) (b:=b) (n:=zs.length) (cap:=cap) (k:=k) (by simp) hlt h1;have sl2:=fun h=>FD (h:=h) (ev:=X.ea [(55,.d (i64 K)),(54,.row b 0 zs.length cap 1),(0,.row b 0 zs.length cap 1),(3,.d (i64 K))]) (x:=.t 55) (b:=b) (n:=zs.length) (cap:=cap) (k:=K) (by simp) hK (by omega);have sl3:=fun h=>yM (h:=h) (ev:=X.ea [(58,.d (i64 K)),(57,.row b 0 zs.length cap 1),(56,.row b K (zs.length - K) (cap.map (· - K)) 1),(55,.d (i64 K)),(54,.row b 0 zs.length cap 1),(0,.row b 0 zs.length cap 1),(3,.d (i64 K))]) (x:=.t 58) (b:=b) (z:=1) (len:=zs.length) (cap:=cap) (n:=K) (by simp) (by omega);refine ⟨cur2,min lo' b,.inl ⟨?_,c1,by rcases k3 with k3 | k3 <;> omega⟩⟩;rw [key];simp only [hxy,if_true,Nat.zero_add]
    subst hxy;simp [iv] at sl1;simp [qp,i1,i0,l1,l0,iv,hwm,hlt,sl1,-fT];rw [aH];simp at k1;simp [k1,sl2];rw [c2];simp [sl3,hKe]
  · obtain ⟨cur',lo',hh⟩:=ih (k + 1) (by omega) (by omega);simp only [show k + 1 - 1 = k by omega] at hh;refine ⟨cur',lo',?_⟩;rw [key];have hyx:¬ y = x:=fun h=>hxy h.symm;have hadd:k + (1 + chg (zs.drop k)) = k + 1 + chg (zs.drop k):=by omega
    simp only [hxy,if_false,hadd];simp [qp,i1,i0,l1,l0,iv,hwm,hw,hlt,hyx,-fT];simpa using hh
theorem uj {id:FuncId} (ht:T id = some (cmpQ kd)) (hv:val id = false) {zs:List Int} {b:Nat} {cap:Option Nat} {h:Hp} (hb:ah h.bs b = some (zs.map (iv kd))) (hn:zs.length < 2 ^ 62) :
 ∃ h',Sm E T val id [.row b 0 zs.length cap 1] h = some (.row b 0 (rT zs) cap 1,h') /\ (h' = h \/ ∃ cur,h' = ⟨h.bs.set b (.cells cur),min h.low b⟩):=by
 have hbl:=aP hb;have hset:h.bs.set b (.cells (zs.map (iv kd))) = h.bs:=by
  apply List.ext_getElem?;intro i;by_cases hi:b = i
  · subst hi;rw [List.getElem?_set_self hbl];unfold ah at hb;split at hb
    · rename_i hh; cases hb; exact hh.symm
    · cases hb
  · rw [List.getElem?_set_ne hi]
 have hM:(⟨h.bs,h.bs.length⟩:Hp) = Mr h.bs b (zs.map (iv kd)) h.bs.length:=by simp [Mr,hset]
 rw [aB ht hv,hM];by_cases h2:zs.length < 2
 · refine ⟨h,?_,.inl rfl⟩;have:rT zs = zs.length:=by
    match zs,h2 with
    | [],_=>rfl
    | [x],_=>rfl
    | _ :: _ :: _,h2=>simp at h2; omega
   simp [cmpQ,af,show ((zs.length:Int) < 2) from by omega,this,V.under,hbl];simp [Mr]
 · have hne:zs ≠ []:=by rintro rfl; simp at h2
   obtain ⟨cur',lo',hh | hh⟩:=Kb (E:=E) (T:=T) (val:=val) (kd:=kd) (lo:=h.bs.length) (cap:=cap) hbl hn (zs.length - 1) 1 (by omega) (by omega)
   · obtain ⟨k1,k2,k3⟩:=hh;have hlo:lo' = b:=by omega
     subst hlo;refine ⟨_,?_,.inr ⟨cur',rfl⟩⟩;simp at k1;simp [cmpQ,af,show ¬ ((zs.length:Int) < 2) from by omega];rw [aH];simp [k1,rT,hne,V.under,hbl];simp [Mr,show ¬ (h.bs.length <= lo') from by omega]
   · obtain ⟨k1,k2⟩:=hh;refine ⟨h,?_,.inl rfl⟩;simp at k1 k2;simp [cmpQ,af,show ¬ ((zs.length:Int) < 2) from by omega];rw [aH];simp [k1,rT,hne,V.under,hbl,k2];simp [Mr]
end
end
section
noncomputable def E1:Calls':=fun f args h=>match Nat.beq f 362 with
 | true=>mK args h
 | false=>Sm (fun _ _ _=>none) TT ak f args h
def bm0:List (Nat × QF):=[(276,Ec),(353,Mv),(364,au8)]
def TP:FuncId -> Option QF:=jk bm0
def nO (f:FuncId):Bool:=Nat.beq 276 f
theorem TY:TP 276 = some Ec:=rfl
theorem TW:TP 353 = some (cloneQ 1 8 [(.d (.int .i64 0))]):=by kernel_rfl
theorem Ua:TP 364 = some (cmpQ .i64):=by kernel_rfl
theorem cz0:TP 362 = none:=rfl
theorem cy9:TP 357 = none:=rfl
theorem cz1:TP 363 = none:=rfl
theorem QZ {args:List V} {h:Hp}:Sm E1 TP nO 362 args h = mK args h:=by rw [aJ cz0]; rfl
theorem FQ {args:List V} {h:Hp}:Sm E1 TP nO 357 args h = Sm (fun _ _ _=>none) TT ak 357 args h:=by rw [aJ cy9]; rfl
theorem FR {args:List V} {h:Hp}:Sm E1 TP nO 363 args h = Sm (fun _ _ _=>none) TT ak 363 args h:=by rw [aJ cz1]; rfl
variable {E:Calls'}
def ko (n:Int):Bool:=decide (n >= 1) && decide (n <= 65535)
theorem dm2:TT 398 = some (anyQ 424):=di6
theorem dm8:TT 424 = some idx1Q:=dj5
theorem dm3:TT 399 = some not1Q:=di7
theorem dl4:TT 363 = some (allQ 398 399):=dh2
theorem Qx (s:Sl Int) (hs:short s) (h:Hp):Sm E TT ak 363 [.d (i64 6),.d (s.d jJ),.fn 325 []] h = some (bl (decide ((s.l.length:Int) <= 6) && s.l.all ko),h) :=
 Qy (cell:=fun n=>i64 n) dm8 dv3 dm2 du4 dm3 du5 dl4 dt0 hs (fun e he h=>ca2 e h) h
def aU (t:Target):Bool:=(aR t.methods && (aR t.paths && (aR t.hosts && true))) && (decide ((t.ports.l.length:Int) <= 6) && t.ports.l.all ko) && ((rT (dx t.ports.l):Int) == (t.ports.l.length:Int))
theorem tL {T:FuncId -> Option QF} {val:FuncId -> Bool} {kd:IntKind} {id:FuncId} (ht:T id = some (cmpQ kd)) (hv:val id = false) (h:Hp):Sm E T val id [.d (.slice true [])] h = some (.d (.slice true []),h):=by
 rw [aB ht hv];simp [cmpQ,af,V.under]
theorem sG {h:Hp} {b n:Nat} {cap:Option Nat} {ds:List D} (hb:ah h.bs b = some (ds.map .d)) (hn:n = ds.length):frz h (.row b 0 n cap 1) = some (.d (.slice false (ds.map fun d=>[d]))):=by
 have h1:ah h.bs b = some (flat (ds.map fun d=>[d]) ++ []):=by
  have hf:∀ l:List D,(l.map fun d=>[d]).flatten = l:=by
   intro l
   induction l with
   | nil=>rfl
   | cons d l ih=>simp only [List.map_cons,List.flatten_cons,ih]; rfl
  rw [hb,List.append_nil,flat,hf]
 have:=dI (h:=h) (k:=7) (b:=b) (n:=n) (cap:=cap) (z:=1) (es:=ds.map fun d=>[d]) (rest:=[]) (by simp) (by simpa using hn) h1;simp only [frz,dD,this]
def oP (t:Target):Bool:=aR t.methods && (aR t.paths && (aR t.hosts && true))
def iV (t:Target):Bool:=decide ((t.ports.l.length:Int) <= 6) && t.ports.l.all ko
theorem Qs (t:Target) (ht:t.wf big) (b:Nat) (cap:Option Nat) (h:Hp) (hb:ah h.bs b = some [.d (t.methods.d Term.c),.d (t.paths.d Term.c),.d (t.hosts.d Term.c)]):Sm E TT ak 357 [.row b 0 3 cap 1] h = some (bl (oP t),h):=by
 refine Qw [t.methods,t.paths,t.hosts] (by simp) ?_ _ h (sG (ds:=[t.methods.d Term.c,t.paths.d Term.c,t.hosts.d Term.c]) hb rfl)
 · intro s hs;simp only [List.mem_cons,List.not_mem_nil,or_false] at hs;rcases hs with rfl | rfl | rfl
   · exact ⟨ht.2.1.1,fun x hx=>(ht.2.1.2 x hx).2⟩
   · exact ⟨ht.2.2.1.1,fun x hx=>(ht.2.2.1.2 x hx).2⟩
   · exact ⟨ht.2.2.2.1,fun x hx=>(ht.2.2.2.2 x hx).2⟩
theorem EX (t:Target) (ht:t.wf big) (hl:t.ports.l = []) (hnl:t.ports.nl = true) (h:Hp):Sm E1 TP nO 276 [ag t.c] h = some (bl (aU t),h):=by
 have hp:t.ports.d jJ = .slice true []:=by simp [Sl.d,hl,hnl]
 have c1:=fun h=>kK (E:=E1) (T:=TP) (val:=nO) TW rfl (by decide) (by decide) (nl:=true) (es:=[]) (by simp) (by simp) h;have c3:=fun h=>tL (E:=E1) (T:=TP) (val:=nO) Ua rfl h;have c2:∀ h,mK [.d (.slice true [])] h = some (.tup [],h):=fun _=>rfl;have r1:=fun b cap h hb=>Qs (E:=fun _ _ _=>none) t ht b cap h hb;have a1:=fun h=>Qx (E:=fun _ _ _=>none) t.ports ht.1.1 h;rw [← hp] at c1;have hlen:t.ports.l.length = 0:=by rw [hl]; rfl
 rw [bf TY rfl];have hT:aU t = (oP t && iV t && true):=by simp [aU,oP,iV,hl,rT,dx]
 rw [hT];simp [af,Ec,c1,dA,QZ,c2];cases hR:oP t <;> cases hP:iV t;all_goals
  simp only [hR] at r1;have a2:=hP;unfold iV at a2;simp only [a2] at a1;simp (decide:=true) [aN,aD,FQ,FR,r1,a1,c3,aA,aV,hlen]
theorem Dh (l:List Int):flat (l.map jJ) = dC l:=by
 simp only [flat,dC]
 induction l with
 | nil=>rfl
 | cons x l ih=>simp only [List.map_cons,List.flatten_cons,List.map_append,ih]; rfl
theorem Dq (l:List Int):(dC l).mapM asInt = some l:=by
 induction l with
 | nil=>rfl
 | cons x l ih =>
  simp only [dC,List.map_cons,List.mapM_cons] at ih ⊢;simp [ih,asInt]
theorem Ev (l:List Int):(dx l).length = l.length:=List.length_mergeSort _
theorem zg (t:Target) (ht:t.wf big) (hl:t.ports.l = []) (hnl:t.ports.nl = false) (h:Hp):Sm E1 TP nO 276 [ag t.c] h = some (bl (aU t),h):=by
 have hp:t.ports.d jJ = .slice false []:=by simp [Sl.d,hl,hnl]
 have c1:=fun h=>kK (E:=E1) (T:=TP) (val:=nO) TW rfl (by decide) (by decide) (nl:=false) (es:=[]) (by simp) (by simp) h;have c3:=uj (E:=E1) (T:=TP) (val:=nO) Ua rfl (zs:=[]) (b:=1) (cap:=some 0) (h:=⟨[.cells (t.c.map .d),.cells [],.cells [.d (t.methods.d Term.c),.d (t.paths.d Term.c),.d (t.hosts.d Term.c)]],3⟩) (by simp) (by simp);have c2:∀ b c h,mK [.row b 0 0 c 1] h = some (.tup [],h):=fun _ _ _=>rfl;have r1:=fun b cap h hb=>Qs (E:=fun _ _ _=>none) t ht b cap h hb;have a1:=fun h=>Qx (E:=fun _ _ _=>none) t.ports ht.1.1 h;rw [← hp] at c1;have hlen:t.ports.l.length = 0:=by rw [hl]; rfl
 rw [bf TY rfl];have hT:aU t = (oP t && iV t && true):=by simp [aU,oP,iV,hl,rT,dx]
 rw [hT];obtain ⟨h',c3,c4⟩:=c3;simp [rT] at c3;simp [af,Ec,c1,dA,QZ,c2];cases hR:oP t <;> cases hP:iV t;all_goals
  simp only [hR] at r1;have a2:=hP;unfold iV at a2;simp only [a2] at a1;rcases c4 with rfl | ⟨cur,rfl⟩ <;> first | (simp (decide:=true) [aN,aD,FQ,FR,r1,a1,c3,aA,aV,hlen]; done) | (simp (decide:=true) [aN,aD,FQ,FR,r1,a1,c3,aA,aV,hlen]; rw [if_pos (rF (by rfl))]; simp)
theorem CZ (t:Target) (ht:t.wf big) (hl:t.ports.l ≠ []) (h:Hp):Sm E1 TP nO 276 [ag t.c] h = some (bl (aU t),h):=by
 have hnl:t.ports.nl = false:=by
  cases hh:t.ports.nl with
  | false=>rfl
  | true=>exact absurd (ht.1.1.2 hh) hl
 have hsl:=Ev t.ports.l;have hne0:¬ t.ports.l.length = 0:=by simpa using hl
 have hlb:t.ports.l.length <= big:=ht.1.1.1;have hp:t.ports.d jJ = .slice false (t.ports.l.map jJ):=by simp [Sl.d,hnl]
 have c1:∀ h,Sm E1 TP nO 353 [.d (t.ports.d jJ)] h = some (.row (h.bs.length + 1) 0 t.ports.l.length none 1,⟨h.bs ++ [.cells [],.cells (dC t.ports.l)],min h.low h.bs.length⟩):=by
  intro h;have:=kK (E:=E1) (T:=TP) (val:=nO) TW rfl (by decide) (by decide) (nl:=false) (es:=t.ports.l.map jJ) (by simp [jJ]) (by simpa using hlb) h;rw [hp,this];have hf:=Dh t.ports.l
  revert hf hl
  cases t.ports.l with
  | nil=>intro hl; exact absurd rfl hl
  | cons x l =>
   intro _ hf;simp only [List.map_cons] at hf;simp [dA,hf]
 have c2:∀ lo,mK [.row 2 0 t.ports.l.length none 1] ⟨[.cells (t.c.map .d),.cells [],.cells (dC t.ports.l)],lo⟩ = some (.tup [],⟨[.cells (t.c.map .d),.cells [],.cells (dC (dx t.ports.l))],min lo 2⟩):=by
  intro lo;simp only [mK,if_neg hne0,get_eq,Dl,uy,Dq];rw [if_pos ⟨trivial,hlb⟩];rfl
 have c3:=uj (E:=E1) (T:=TP) (val:=nO) Ua rfl (zs:=dx t.ports.l) (b:=2) (cap:=none) (h:=⟨[.cells (t.c.map .d),.cells [],.cells (dC (dx t.ports.l)),.cells [.d (t.methods.d Term.c),.d (t.paths.d Term.c),.d (t.hosts.d Term.c)]],4⟩) (by simp; rfl) (by rw [hsl]; exact Nat.lt_of_le_of_lt hlb (by decide));have r1:=fun b cap h hb=>Qs (E:=fun _ _ _=>none) t ht b cap h hb;have a1:=fun h=>Qx (E:=fun _ _ _=>none) t.ports ht.1.1 h;rw [bf TY rfl];have hT:aU t = (oP t && iV t && ((rT (dx t.ports.l):Int) == (t.ports.l.length:Int))):=rfl;rw [hT];obtain ⟨h',c3,c4⟩:=c3;rw [hsl] at c3;generalize rT (dx t.ports.l) = K at *;generalize dC (dx t.ports.l) = Z at *;generalize dC t.ports.l = Z0 at *;simp [af,Ec,c1,QZ,c2];cases hR:oP t <;> cases hP:iV t;all_goals
  simp only [hR] at r1;have a2:=hP;unfold iV at a2;simp only [a2] at a1;rcases c4 with rfl | ⟨cur,rfl⟩ <;> first | (simp (decide:=true) [aN,aD,FQ,FR,r1,a1,c3,aA,aV]; done) | (simp (decide:=true) [aN,aD,FQ,FR,r1,a1,c3,aA,aV]; rw [if_pos (rF (by rfl))]; simp)
theorem Xz (t:Target) (ht:t.wf big) (h:Hp):Sm E1 TP nO 276 [ag t.c] h = some (bl (aU t),h):=by
 by_cases hl:t.ports.l = []
 · cases hnl:t.ports.nl with
   | true=>exact EX t ht hl hnl h
   | false=>exact zg t ht hl hnl h
 · exact CZ t ht hl h
end
section
variable {E:Calls'}
theorem dl9:TT 393 = some (anyQ 414):=di2
theorem dm7:TT 414 = some (idxQ 2):=dj4
theorem dm0:TT 394 = some (notQ 2):=di3
theorem dl1:TT 358 = some (allQ 393 394):=dg8
theorem dk9:TT 355 = some (anyQ 389):=dg5
theorem dl7:TT 389 = some (idxQ 3):=dh8
theorem dl0:TT 356 = some (notQ 3):=dg6
theorem dk5:TT 273 = some (allQ 355 356):=df1
theorem dl2:TT 360 = some (anyQ 396):=dh0
theorem dm1:TT 396 = some (idxQ 4):=di5
theorem dl3:TT 361 = some (notQ 4):=dh1
theorem dk6:TT 275 = some (allQ 360 361):=df4
theorem dl5:TT 365 = some (anyQ 400):=dh3
theorem dm4:TT 400 = some (idxQ 2):=di8
theorem dl6:TT 366 = some (notQ 2):=dh4
theorem dk7:TT 277 = some (allQ 365 366):=df5
theorem dj9:TT 271 = some (anyQ 354):=de9
theorem dk8:TT 354 = some (idxQ 3):=dg4
theorem dk4:TT 272 = some (notQ 3):=df0
theorem dj8:TT 200 = some (allQ 271 272):=dd7
theorem cv8:TT 276 = none:=by kernel_rfl
def jl (s:Sl Cidr):Bool:=decide ((s.l.length:Int) <= 6) && s.l.all lQ
theorem cc5 (s:Sl Cidr) (hs:short s) (h:Hp):Sm E TT ak 358 [.d (i64 6),.d (s.d Cidr.c),.fn 359 []] h = some (bl (jl s),h) :=
 wF (cells:=Cidr.c) dm7 dv2 dl9 du0 dm0 du1 dl1 ds6 (fun _=>rfl) hs (fun e he h=>cc6 e h) h
def dM (s:Source):Bool:=(aR s.names && (aR s.spaces && true)) && jl s.nets
theorem cb8 (s:Source) (hs:s.wf big) (h:Hp):Sm E TT ak 274 [ag s.c] h = some (bl (dM s),h):=by
 have r1:∀ b cap h,ah h.bs b = some [.d (s.names.d Term.c),.d (s.spaces.d Term.c)] -> Sm E TT ak 357 [.row b 0 2 cap 1] h = some (bl ([s.names,s.spaces].all aR),h):=by
  intro b cap h hb;refine Qw [s.names,s.spaces] (by simp) ?_ _ h (sG (ds:=[s.names.d Term.c,s.spaces.d Term.c]) hb rfl);intro x hx;simp only [List.mem_cons,List.not_mem_nil,or_false] at hx;rcases hx with rfl | rfl
  · exact ⟨hs.1.1,fun x hx=>(hs.1.2 x hx).2⟩
  · exact ⟨hs.2.1.1,fun x hx=>(hs.2.1.2 x hx).2⟩
 have a1:=fun h=>cc5 (E:=E) s.nets hs.2.2.1 h;have hT:dM s = ([s.names,s.spaces].all aR && jl s.nets):=rfl;rw [hT];generalize [s.names,s.spaces].all aR = A at *;generalize jl s.nets = B at *;rw [bf df3 dq7];cases A <;> simp (decide:=true) [af,Mw,aN,aD,r1,a1,aA,aV]
def gu (w:When):Bool:=iJ w.head && (aR w.terms && true) && decide ((w.terms.l.length:Int) > 0)
theorem cb9 (w:When) (hw:w.wf big) (h:Hp):Sm E TT ak 278 [ag w.c] h = some (bl (gu w),h):=by
 have r1:∀ b cap h,ah h.bs b = some [.d (w.terms.d Term.c)] -> Sm E TT ak 357 [.row b 0 1 cap 1] h = some (bl ([w.terms].all aR),h):=by
  intro b cap h hb;refine Qw [w.terms] (by simp) ?_ _ h (sG (ds:=[w.terms.d Term.c]) hb rfl);intro x hx;simp only [List.mem_cons,List.not_mem_nil,or_false] at hx;subst hx;exact ⟨hw.2.1,fun x hx=>(hw.2.2 x hx).2⟩
 have a1:=fun h=>cc7 (E:=E) w.head hw.1 h;have hT:gu w = (iJ w.head && [w.terms].all aR && decide ((w.terms.l.length:Int) > 0)):=rfl;rw [hT];generalize [w.terms].all aR = A at *;generalize iJ w.head = B at *;rw [bf df6 dr0];cases B <;> cases A <;> simp (decide:=true) [af,Mx,aN,aD,r1,a1,aA,aV]
def dW (r:Rule):Bool:=(decide ((r.frm.l.length:Int) <= 3) && r.frm.l.all dM) && (decide ((r.to.l.length:Int) <= 3) && r.to.l.all aU) && (decide ((r.whn.l.length:Int) <= 3) && r.whn.l.all gu)
section
variable (h385:∀ t:Target,t.wf big -> ∀ h,E 276 [ag t.c] h = some (bl (aU t),h))
include h385
theorem XA (t:Target) (ht:t.wf big) (h:Hp):Sm E TT ak 276 [ag t.c] h = some (bl (aU t),h):=by rw [aJ cv8]; exact h385 t ht h
theorem cb2 (r:Rule) (hr:r.wf big) (h:Hp):Sm E TT ak 201 [ag r.c] h = some (bl (dW r),h):=by
 have k1:=fun h=>wF (E:=E) (T:=TT) (val:=ak) (cells:=Source.c) dl7 dt6 dk9 dr9 dl0 ds4 dk5 dq6 (fun _=>rfl) (s:=r.frm) hr.1.1 (m:=3) (f:=274) (p:=dM) (fun e he h=>cb8 e (hr.1.2 e he) h) h;have k2:=fun h=>wF (E:=E) (T:=TT) (val:=ak) (cells:=Target.c) dm1 du3 dl2 ds8 dl3 ds9 dk6 dq8 (fun _=>rfl) (s:=r.to) hr.2.1.1 (m:=3) (f:=276) (p:=aU) (fun e he h=>XA h385 e (hr.2.1.2 e he) h) h;have k3:=fun h=>wF (E:=E) (T:=TT) (val:=ak) (cells:=When.c) dm4 du6 dl5 dt1 dl6 dt2 dk7 dq9 (fun _=>rfl) (s:=r.whn) hr.2.2.1 (m:=3) (f:=278) (p:=gu) (fun e he h=>cb9 e (hr.2.2.2 e he) h) h;unfold dW;generalize (decide ((r.frm.l.length:Int) <= 3) && r.frm.l.all dM) = A at *;generalize (decide ((r.to.l.length:Int) <= 3) && r.to.l.all aU) = B at *;generalize (decide ((r.whn.l.length:Int) <= 3) && r.whn.l.all gu) = C at *;rw [bf dd8 dp3];cases A <;> cases B <;> simp (decide:=true) [af,Md,aN,aD,k1,k2,k3,aV]
def aS (p:Pol):Bool:=decide (p.id >= 1) && decide (p.id <= 4611686018427387903) && (eqS p.ns ⟨#[]⟩ || eu p.ns) && decide (p.service <= 4611686018427387903) && ((p.deny == 0) || (p.deny == 1)) && (decide ((p.rules.l.length:Int) <= 6) && p.rules.l.all dW)
theorem Qu (p:Pol) (hp:p.wf big) (h:Hp):Sm E TT ak 125 [ag p.c] h = some (bl (aS p),h):=by
 have k1:=fun h=>wF (E:=E) (T:=TT) (val:=ak) (cells:=Rule.c) dk8 dr8 dj9 dq4 dk4 dq5 dj8 dp2 (fun _=>rfl) (s:=p.rules) hp.2.2.2.2.1 (m:=6) (f:=201) (p:=dW) (fun e he h=>cb2 h385 e (hp.2.2.2.2.2 e he) h) h;have k2:=fun h=>ca3 (E:=E) p.ns hp.2.1 h;unfold aS;generalize (decide ((p.rules.l.length:Int) <= 6) && p.rules.l.all dW) = A at *;generalize eu p.ns = B at *;have ho:eqS p.ns ⟨#[]⟩ = eqS p.ns ⟨#[]⟩:=rfl;rw [bf bl6 bm4];by_cases c1:p.id >= 1
 case neg=>simp (decide:=true) [af,qM,aN,aD,aV,c1]
 by_cases c2:p.id <= 4611686018427387903
 case neg=>simp (decide:=true) [af,qM,aN,aD,aV,c1,c2]
 cases c3:eqS p.ns ⟨#[]⟩
 case false =>
  cases B
  case false=>simp (decide:=true) [af,qM,aN,aD,aV,c1,c2,c3,k2]
  by_cases c4:p.service <= 4611686018427387903
  case neg=>simp (decide:=true) [af,qM,aN,aD,aV,c1,c2,c3,k2,c4]
  by_cases c5:p.deny = 0
  case pos=>simp (decide:=true) [af,qM,aN,aD,aV,c1,c2,c3,k2,c4,c5,k1]
  by_cases c6:p.deny = 1 <;> simp (decide:=true) [af,qM,aN,aD,aV,c1,c2,c3,k2,c4,c5,c6,k1]
 case true =>
  by_cases c4:p.service <= 4611686018427387903
  case neg=>simp (decide:=true) [af,qM,aN,aD,aV,c1,c2,c3,k2,c4]
  by_cases c5:p.deny = 0
  case pos=>simp (decide:=true) [af,qM,aN,aD,aV,c1,c2,c3,k2,c4,c5,k1]
  by_cases c6:p.deny = 1 <;> simp (decide:=true) [af,qM,aN,aD,aV,c1,c2,c3,k2,c4,c5,c6,k1]
end
end
section
def bH:List Int -> Bool
 | x :: y :: l=>decide (x < y) && bH (y :: l)
 | _=>true
theorem lH {l:List Int} {i:Nat} (h:i + 1 < l.length):bH (l.drop i) = (decide (l[i] < l[i + 1]) && bH (l.drop (i + 1))):=by
 rw [List.drop_eq_getElem_cons (show i < l.length by omega),List.drop_eq_getElem_cons h];simp only [bH]
theorem nL {l:List Int} {i:Nat} (h:l.length <= i + 1):bH (l.drop i) = true:=by
 have:(l.drop i).length <= 1:=by simp only [List.length_drop]; omega
 match l.drop i,this with
 | [],_=>rfl
 | [_],_=>rfl
 | _ :: _ :: _,h=>simp at h
theorem ol {α:Type} {cells:α -> List D} {z:Nat} (hz:∀ x,(cells x).length = z) {s:Sl α} {i:Nat} (hi:i < s.l.length) {kd:IntKind} {h:Hp}:fP none z (.d (s.d cells)) (.d (.int kd i)) h = some (.eptr (cells s.l[i]) 0,h):=by
 simp [fP,Sl.d,hi,hz]
section
variable {E:Calls'} {T:FuncId -> Option QF} {val:FuncId -> Bool}
theorem kM {con id:FuncId} (ht:T id = some (someQ con)) (hv:val id = false) {v:V} {f:FuncId} {caps:List V} {b:Bool} {h:Hp} (hnu:nu v = some v) (hok:okV v = true) (hc:Sm E T val con [v,.fn f caps] ⟨h.bs,h.bs.length⟩ = some (bl b,⟨h.bs,h.bs.length⟩)) :
 Sm E T val id [v,.fn f caps] h = some (bl b,h):=by
 rw [aB ht hv];simp [someQ,af,hnu,hok,hc,V.under]
end
end
section
variable {E:Calls'}
def Qf (c:Cfg) (n:Int):Option Svc:=c.services.l.find? fun p=>p.id == n
def K6 (c:Cfg) (p:Pod):Bool:=decide (p.uid < 10) || (decide (p.uid >= c.next) || !(eu p.ns && eu p.sa))
def K7 (c:Cfg) (p:Pod):Bool:=decide (p.host < 2) || (decide (p.host > IntKind.wrap .i64 (c.hosts + 1)) || !ko p.port)
def K8 (c:Cfg) (p:Pod):Bool:=!(p.service == 0) && (match Qf c p.service with | some s=>!eqS s.ns p.ns | none=>true)
def Uh (c:Cfg) (p:Pod):Bool:=K6 c p || (K7 c p || K8 c p)
def K9 (c:Cfg):Bool:=!c.pods.l.any (Uh c) && bH (c.pods.l.map Pod.uid)
end
section
variable {E:Calls'}
def FE (n:Int):Bool:=decide (n >= 1) && decide (n <= 4611686018427387903)
def VT (c:Cfg) (s:Svc):Bool:=!FE s.id || (!eu s.ns || (!ko s.port || !((s.way == 0) || c.bound.l.any fun w=>w.id == s.way)))
def yG (c:Cfg):Bool:=!c.services.l.any (VT c) && bH (c.services.l.map Svc.id)
def Ui (c:Cfg) (p:Pol):Bool:=decide (p.id < 1) || (!aS p || (!(p.service == 0) && (Qf c p.service).isNone))
section
variable (h385:∀ t:Target,t.wf big -> ∀ h,E 276 [ag t.c] h = some (bl (aU t),h))
include h385
def yj (c:Cfg):Bool:=!c.policies.l.any (Ui c) && bH (c.policies.l.map Pol.id)
end
end
section
variable {E:Calls'}
def V6 (c:Cfg) (pre:List Way) (w:Way):Bool:=!FE w.id || (decide (w.node < IntKind.wrap .i64 (c.hosts + 2)) || (decide (w.node > IntKind.wrap .i64 (IntKind.wrap .i64 (c.hosts + 1) + c.ways)) || pre.any fun v=>v.node == w.node))
def CR (c:Cfg):List Way -> List Way -> Bool
 | _,[]=>false
 | pre,w :: l=>V6 c pre w || CR c (pre ++ [w]) l
def Fy (c:Cfg):Bool:=!CR c [] c.bound.l && bH (c.bound.l.map Way.id)
end
section
variable {E:Calls'}
structure Ar (c:Cfg) (acc:List Int) (bs:List Blk) (v:V):Prop where
 c0:ah bs 0 = some (c.c.map .d)
 is:∃ b cap,0 < b /\ v = .row b 0 acc.length cap 1 /\ ah bs b = some (acc.map (iv .u32)) /\ (cap = none \/ cap = some acc.length)
 ne:acc ≠ []
theorem Ar.nu {c:Cfg} {acc:List Int} {bs:List Blk} {v:V} (h:Ar c acc bs v):Go.Proofs.YtjkfknafpgfchaaGreat.nu v = some v:=by
 obtain ⟨b,cap,_,rfl,_⟩:=h.is; rfl
theorem Ar.lay {c:Cfg} {acc:List Int} {bs:List Blk} {v:V} (h:Ar c acc bs v) (ys:List Blk):Ar c acc (bs ++ ys) v:=by
 obtain ⟨b,cap,k1,k2,k3,k4⟩:=h.is;exact ⟨au h.c0,⟨b,cap,k1,k2,au k3,k4⟩,h.ne⟩
theorem Ar.app {c:Cfg} {acc:List Int} {bs:List Blk} {v:V} (h:Ar c acc bs v) (hl:acc.length < big) (lo:Nat) {x:Int} {r:Nat} {cap:Option Nat} (hr:ah bs r = some [iv .u32 x]) :
 ∃ v' bs' lo',dZ ⟨bs,lo⟩ 1 4 v (.row r 0 1 cap 1) = some (v',⟨bs',lo'⟩) /\ Ar c (acc ++ [x]) bs' v':=by
 obtain ⟨b,cp,k1,rfl,k3,k4⟩:=h.is;have hbl:=aP k3;have h0l:=aP h.c0;have hrc:aF ⟨bs,lo⟩ (.row r 0 1 cap 1) 1 = some (1,[iv .u32 x]):=by
  simp only [aF,if_true,get_eq,hr]; rfl
 have hsub:sub (acc.map (iv .u32)) 0 (acc.length * 1) = some (acc.map (iv .u32)):=bB (by simp);have hroom:roomy (acc.length + 1) 4 = true:=by
  simp only [roomy,Bool.and_eq_true,decide_eq_true_eq]; exact ⟨hl,by decide⟩
 have hpos:0 < acc.length:=List.length_pos_iff.2 h.ne;have hcs:(acc.map (iv .u32)) ++ [iv .u32 x] = (acc ++ [x]).map (iv .u32):=by simp
 rcases k4 with rfl | rfl
 · refine ⟨.row bs.length 0 (acc.length + 1) none 1,bs.set b (.cells []) ++ [.cells ((acc ++ [x]).map (iv .u32))],min lo b,?_,⟨?_,?_,by simp⟩⟩
   · simp only [dZ,hrc,aC,get_eq,k3,hsub,hroom];simp [hpos,Hp.set]
   · refine au ?_;have:=h.c0;unfold ah at this ⊢;rw [List.getElem?_set_ne (by omega)]; exact this
   · exact ⟨bs.length,none,by omega,by simp,by have:=dF (bs:=bs.set b (.cells [])) (ys:=[.cells ((acc ++ [x]).map (iv .u32))]); simp only [List.length_set] at this; rw [this]; rfl,.inl rfl⟩
 · refine ⟨.row bs.length 0 (acc.length + 1) none 1,bs ++ [.cells ((acc ++ [x]).map (iv .u32))],lo,?_,⟨au h.c0,?_,by simp⟩⟩
   · simp only [dZ,hrc,aC,get_eq,k3,hsub,hroom];simp;intro hh; omega
   · exact ⟨bs.length,none,by omega,by simp,by rw [dF]; rfl,.inl rfl⟩
def dup:List Int -> List Int -> Bool
 | _,[]=>false
 | pre,x :: l=>(pre.any fun y=>x == y) || dup (pre ++ [x]) l
def E9 (c:Cfg):Bool:=!dup [] (0 :: (c.pods.l.map Pod.addr ++ c.services.l.map Svc.addr))
end
section
variable {E:Calls'}
def VS (c:Cfg):Bool:=decide ((c.pods.l.length:Int) <= 16) && decide ((c.services.l.length:Int) <= 6) && decide ((c.bound.l.length:Int) <= 4) && decide ((c.policies.l.length:Int) <= 12)
def YB (c:Cfg):Bool:=decide (c.epoch <= 4611686018427387903) && decide (c.next >= 10) && decide (c.next <= 4611686018427387904) && decide (c.hosts >= 1) && decide (c.hosts <= 4) && decide (c.ways >= 0) && decide (c.ways <= 4)
def cv5 (c:Cfg):Bool:=YB c && K9 c && yG c && E9 c && Fy c && yj c
end
end Go.Proofs.YtjkfknafpgfchaaGreat
