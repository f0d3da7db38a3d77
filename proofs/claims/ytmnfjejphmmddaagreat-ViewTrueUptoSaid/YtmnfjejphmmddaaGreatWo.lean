/- slices.SortFunc at things of more cells than one, by a number that each of them has, as a function from outside: what it answers. -/
import Derived.Test.YtmnfjejphmmddaaGreatPy
import Derived.Test.YtmnfjejphmmddaaGreatCp
import Derived.Test.YtmnfjejphmmddaaGreatSa
import Derived.Test.YtmnfjejphmmddaaGreatWa
import Derived.Test.YtmnfjejphmmddaaGreatGn
import Derived.Test.YtmnfjejphmmddaaGreatGm
set_option linter.unusedVariables false
set_option linter.unusedSimpArgs false
namespace Go.Proofs.YtmnfjejphmmddaaGreat
def keyV (p:Nat) (r:List V):Option Int:=match r[p]? with
 | some (.d (.int .u64 n))=>some n
 | _=>none
def keyI (p:Nat) (r:List V):Int:=(keyV p r).getD 0
def chunk (z n:Nat) (cs:List V):List (List V):=(List.range n).map fun i=>(cs.drop (i * z)).take z
def sortV (p:Nat) (rs:List (List V)):List (List V):=rs.mergeSort fun x y=>decide (keyI p x <= keyI p y)
structure SF where
 z:Nat
 p:Nat
 g:FuncId
 id:FuncId
def sortFE (s:SF) (args:List V) (h:Hp):Option (V × Hp):=match args with
 | [.row b 0 n _ z,.fn g [.ptr c 0]]=>match h.get b,h.get c with
  | some cs,some [.fn id []] =>
   if z = s.z /\ g = s.g /\ id = s.id /\ b ≠ c /\ 0 < n /\ n <= 2 ^ 40 /\ n * z <= cs.length /\ (∀ r ∈ chunk z n cs,(keyV s.p r).isSome = true) /\ ((chunk z n cs).map (keyI s.p)).Nodup then
    some (.tup [],h.set b ((sortV s.p (chunk z n cs)).flatten ++ cs.drop (n * z)))
   else none
  | _,_=>none
 | _=>none
end Go.Proofs.YtmnfjejphmmddaaGreat
namespace Go.Proofs.YtmnfjejphmmddaaGreat
section
variable {E:Calls'} {T:FuncId -> Option QF} {val:FuncId -> Bool}
theorem sub_c {e:List D} {z:Nat} (he:e.length = z):sub (e.map V.d) 0 z = some (e.map V.d):=sub_all (by simpa using he)
end
end Go.Proofs.YtmnfjejphmmddaaGreat
namespace Go.Proofs.YtmnfjejphmmddaaGreat
section
variable {E:Calls'} {T:FuncId -> Option QF} {val:FuncId -> Bool}
theorem apartT_one {pr:List (List Nat)} {l:List Tr} (k:Nat) (hk:(List.range l.length).all (fun j=>j == k || (pr.getD k []).contains j || (pr.getD j []).contains k) = true) (hm:(l.take k ++ l.drop (k + 1)).all Tr.mute = true):apartT pr l = true:=by
 rw [List.all_eq_true] at hk hm
 have hmm:∀ j,j < l.length -> j ≠ k -> ∃ t,l[j]? = some t /\ t.mute = true:=by
  intro j hj hjk
  refine ⟨l[j],by simp [hj],hm _ ?_⟩
  rw [List.mem_append]
  rcases Nat.lt_or_gt_of_ne hjk with h | h
  · left
    rw [List.mem_take_iff_getElem]
    exact ⟨j,by omega,rfl⟩
  · right
    rw [List.mem_drop_iff_getElem]
    exact ⟨j - (k + 1),by omega,by congr 1; omega⟩
 unfold apartT
 simp only [List.all_eq_true,List.mem_range]
 intro i hi j hj
 by_cases hij:i = j
 · simp [hij]
 by_cases hik:i = k
 · subst hik
   have:=hk j (by simpa using hj)
   simp only [Bool.or_eq_true,beq_iff_eq] at this ⊢
   rcases this with (h | h) | h
   · exact absurd h.symm hij
   · exact .inl (.inl (.inr h))
   · exact .inl (.inr h)
 by_cases hjk:j = k
 · subst hjk
   have:=hk i (by simpa using hi)
   simp only [Bool.or_eq_true,beq_iff_eq] at this ⊢
   rcases this with (h | h) | h
   · exact absurd h hij
   · exact .inl (.inr h)
   · exact .inl (.inl (.inr h))
 obtain ⟨s,hs,ms⟩:=hmm i hi hik
 obtain ⟨t,ht,mt⟩:=hmm j hj hjk
 simp only [Tr.mute,Bool.and_eq_true,Bool.not_eq_true',List.isEmpty_iff,beq_iff_eq] at ms mt
 have:s.spares t = true:=by
  unfold Tr.spares
  rw [ms.1.1,mt.1.1,ms.1.2,ms.2]
  cases t.call <;> simp
 simp [hs,ht,this]
end
end Go.Proofs.YtmnfjejphmmddaaGreat
namespace Go.Proofs.YtmnfjejphmmddaaGreat
section
variable {E:Calls'} {T:FuncId -> Option QF} {val:FuncId -> Bool}
end
end Go.Proofs.YtmnfjejphmmddaaGreat
namespace Go.Proofs.YtmnfjejphmmddaaGreat
def svcZ:List V:=[(.d (.int .u64 0)),(.d (.str ⟨#[]⟩)),(.d (.int .u32 0)),(.d (.int .i64 0)),(.d (.int .u64 0))]
def wayZ:List V:=[(.d (.int .u64 0)),(.d (.int .i64 0))]
def polZ:List V:=[(.d (.int .u64 0)),(.d (.str ⟨#[]⟩)),(.d (.int .u64 0)),(.d (.int .i64 0)),(.d (.slice true []))]
def sfPod:SF:=⟨7,0,362,191⟩
def sfSvc:SF:=⟨5,0,291,193⟩
def sfWay:SF:=⟨2,0,294,200⟩
def sfPol:SF:=⟨5,0,296,205⟩
def EW:Calls':=fun f args h=>match Nat.beq f 271,Nat.beq f 276,Nat.beq f 280,Nat.beq f 284 with
 | true,_,_,_=>sortFE sfPod args h
 | _,true,_,_=>sortFE sfSvc args h
 | _,_,true,_=>sortFE sfWay args h
 | _,_,_,true=>sortFE sfPol args h
 | _,_,_,_=>none
def tabW:List (Nat × QF):=[(289,q289),(192,q192),(199,q199),(204,q204),(190,q190),(198,q198),(203,q203),(206,q206),(290,q290),(293,q293),(295,q295),(297,q297),(106,q106),(186,q186),(187,q187),(188,q188),(105,q105),(243,q243),(246,q246),(248,q248),(100,q100),(103,q103),(109,q109),(339,q339),(191,q191),(193,q193),(200,q200),(205,q205)]
def TW:FuncId -> Option QF:=lookT tabW
def valW (f:FuncId):Bool:=[289,192,199,204].any fun n=>Nat.beq n f
section
variable {E:Calls'}
end
end Go.Proofs.YtmnfjejphmmddaaGreat
namespace Go.Proofs.YtmnfjejphmmddaaGreat
structure Edt where
 kind:Int
 id:Int
 pod:Pod
 svc:Svc
 way:Way
 pol:Pol
def Edt.c (e:Edt):List D:=[i64 e.kind,u64 e.id] ++ e.pod.c ++ e.svc.c ++ e.way.c ++ e.pol.c
@[simp] theorem Edt.len {x:Edt}:x.c.length = 21:=(rfl)
@[simp] theorem Edt.all {x:Edt}:sub x.c 0 21 = some x.c:=(rfl)
@[simp] theorem Edt.s0_1 {x:Edt}:sub x.c 0 1 = some [i64 x.kind]:=(rfl)
@[simp] theorem Edt.s1_1 {x:Edt}:sub x.c 1 1 = some [u64 x.id]:=(rfl)
@[simp] theorem Edt.s2_7 {x:Edt}:sub x.c 2 7 = some x.pod.c:=(rfl)
@[simp] theorem Edt.s9_5 {x:Edt}:sub x.c 9 5 = some x.svc.c:=(rfl)
@[simp] theorem Edt.s14_2 {x:Edt}:sub x.c 14 2 = some x.way.c:=(rfl)
@[simp] theorem Edt.s16_5 {x:Edt}:sub x.c 16 5 = some x.pol.c:=(rfl)
@[simp] theorem Edt.s5_1 {x:Edt}:sub x.c 5 1 = some [i64 x.pod.host]:=(rfl)
@[simp] theorem Edt.s6_1 {x:Edt}:sub x.c 6 1 = some [u32 x.pod.addr]:=(rfl)
theorem Cfg.p0 {x:Cfg} {n:Int}:put (x.c.map V.d) 0 [.d (u64 n)] = some (({ x with epoch:=n }:Cfg).c.map V.d):=(rfl)
theorem Cfg.p1 {x:Cfg} {n:Int}:put (x.c.map V.d) 1 [.d (u64 n)] = some (({ x with next:=n }:Cfg).c.map V.d):=(rfl)
theorem Cfg.p4 {x:Cfg} {s:Sl Pod}:put (x.c.map V.d) 4 [.d (s.d Pod.c)] = some (({ x with pods:=s }:Cfg).c.map V.d):=(rfl)
theorem Pod.p0 {x:Pod} {n:Int}:put (x.c.map V.d) 0 [.d (u64 n)] = some (({ x with uid:=n }:Pod).c.map V.d):=(rfl)
theorem Pod.p3 {x:Pod} {n:Int}:put (x.c.map V.d) 3 [.d (i64 n)] = some (({ x with host:=n }:Pod).c.map V.d):=(rfl)
theorem Pod.p4 {x:Pod} {n:Int}:put (x.c.map V.d) 4 [.d (u32 n)] = some (({ x with addr:=n }:Pod).c.map V.d):=(rfl)
section
variable {E:Calls'}
end
end Go.Proofs.YtmnfjejphmmddaaGreat
namespace Go.Proofs.YtmnfjejphmmddaaGreat
def WithE (E:Calls'):Prop:=∀ f,f = 289 \/ f = 192 \/ f = 199 \/ f = 204 -> ∀ args h,E f args h = Sm EW TW valW f args h
section
variable {E:Calls'} (hE:WithE E)
include hE
end
end Go.Proofs.YtmnfjejphmmddaaGreat
namespace Go.Proofs.YtmnfjejphmmddaaGreat
section
variable {E:Calls'} (hE:WithE E)
include hE
end
end Go.Proofs.YtmnfjejphmmddaaGreat
namespace Go.Proofs.YtmnfjejphmmddaaGreat
noncomputable def EO:Calls':=fun f args h=>Sm (fun _ _ _=>none) TT valT f args h
def tabO:List (Nat × QF):=[(90,q90),(106,q106),(186,q186),(187,q187),(188,q188)]
def TO:FuncId -> Option QF:=lookT tabO
def valO (f:FuncId):Bool:=[90,106,186,187].any fun n=>Nat.beq n f
theorem o113:TO 113 = none:=by kernel_rfl
theorem O113 (p:Pol) (hp:p.fits big) (h:Hp):Sm EO TO valO 113 [ag p.c] h = some (ag p.own.c,h):=by
 rw [Sm_ext o113]; exact S113 p hp h
theorem L90 {l:List Pol} (hl:l.length < 2 ^ 62) (hf:∀ p ∈ l,p.ok) {bs0:List Blk} {b:Nat} (hb0:b < bs0.length) (hb1:b ≠ 0) {Co:List V} (hco:bs0[0]? = some (.cells Co)) (hco7:sub Co 7 1 = some [.row b 0 l.length none 5]):∀ (m i:Nat) (kept:List Pol) (bs:List Blk) (lo:Nat),i + m = l.length -> kept.length = i -> Thin Pol.c 5 l bs0 b kept bs →
 ∃ bs' lo',Cd EO TO valO (.loop [1,2,22,23,24] q90_b0) [(1,.ptr 0 0),(2,.ptr 1 0),(22,.row b 0 l.length none 5),(23,.d (i64 l.length)),(24,.d (i64 i))] ⟨bs,lo⟩ = some (.exit 0,[(1,.ptr 0 0),(2,.ptr 1 0)],⟨bs',lo'⟩) ∧
  Thin Pol.c 5 l bs0 b (kept ++ (l.drop i).map Pol.own) bs':=by
 intro m
 have key:=Cd_round (E:=EO) (T:=TO) (val:=valO) [1,2,22,23,24] q90_b0
 generalize Cd EO TO valO (.loop [1,2,22,23,24] q90_b0) = W at key ⊢
 induction m with
 | zero =>
  intro i kept bs lo hi hk ht
  have h0:l.drop i = []:=List.drop_eq_nil_of_le (by omega)
  refine ⟨bs,lo,?_,by simpa [h0] using ht⟩
  rw [key]
  simp [q90_b0,show ¬ ((i:Int) < l.length) from by omega]
 | succ m ih =>
  intro i kept bs lo hi hk ht
  have hlt:i < l.length:=by omega
  have hd:l.drop i = l[i] :: l.drop (i + 1):=List.drop_eq_getElem_cons hlt
  have hcz:∀ x:Pol,(Pol.c x).length = 5:=fun _=>rfl
  have hread:=ht.read hcz (j:=i) (by omega) hlt
  have hrow:=ht.row
  have hfx:=hf _ (List.getElem_mem hlt)
  generalize l[i] = x at *
  have hix:∀ bs lo,idxv none 5 (.row b 0 l.length none 5) (.d (.int .i64 i)) ⟨bs,lo⟩ = some (.ptr b (i * 5),⟨bs,lo⟩):=by
   intro bs lo; simp only [idxv]; rw [if_pos ⟨by omega,by omega,trivial⟩]; simp
  have hw:=int_next hlt hl
  have hcall:=fun h=>O113 x hfx h
  have hput:put polZ 0 (x.c.map V.d) = some (x.c.map .d):=rfl
  have ht1:=ht.lay (.cells (x.c.map .d))
  obtain ⟨cs,hcs,ht2⟩:=ht1.keep hcz (e:=x.own) (by omega)
  rw [hk] at hcs
  have hrow1:=ht1.row
  rw [hk] at hrow hread hrow1
  have hc0:getB (bs ++ [Blk.cells (x.c.map V.d)]) 0 = some Co:=by
   simp only [getB]
   rw [ht1.old 0 (Ne.symm hb1) (by omega),hco]
  have hset:∀ lo,Hp.set ⟨bs ++ [Blk.cells (x.c.map V.d)],lo⟩ b cs = ⟨(bs ++ [Blk.cells (x.c.map V.d)]).set b (Blk.cells cs),min lo b⟩:=fun _=>rfl
  obtain ⟨bs',lo',k1,k2⟩:=ih (i + 1) (kept ++ [x.own]) _ (min (min lo bs.length) b) (by omega) (by simp; omega) ht2
  refine ⟨bs',lo',?_,by simpa [hd] using k2⟩
  generalize hB:(bs ++ [Blk.cells (x.c.map .d)]).set b (Blk.cells cs) = B at *
  rw [key]
  have hpz:polZ = [(.d (.int .u64 0)),(.d (.str ⟨#[]⟩)),(.d (.int .u64 0)),(.d (.int .i64 0)),(.d (.slice true []))]:=rfl
  rw [hpz] at hput
  simp [q90_b0,hix,ldv,hrow,hread,hput,hcall,hw,hrow1,hcs,hset,hc0,hco7,openA,opDE_call,noTr,show ((i:Int) < l.length) from by omega]
  rw [if_pos (apartT_one 6 (by rfl) (by simp [Tr.mute]))]
  simp [hw]
  simpa using k1
def Cfg.own (c:Cfg):Cfg:={ c with policies:=⟨c.policies.nl,c.policies.l.map Pol.own⟩ }
def Cq (c:Cfg) (v:V):List V:=[.d (u64 c.epoch),.d (u64 c.next),.d (i64 c.hosts),.d (i64 c.ways),.d (c.pods.d Pod.c),.d (c.services.d Svc.c),.d (c.bound.d Way.c),v]
theorem O90 (c:Cfg) (hc:c.ok) (h:Hp):Sm EO TO valO 90 [c.v] h = some (c.own.v,h):=by
 have c1:=fun h=>S_cloneV (E:=EO) (T:=TO) (val:=valO) (cells:=Pod.c) (id:=106) (z:=7) (b:=72) (zero:=pod0V) (by kernel_rfl) (by kernel_rfl) (by decide) (by decide) (fun _=>rfl) hc.1 h
 have c2:=fun h=>S_cloneV (E:=EO) (T:=TO) (val:=valO) (cells:=Svc.c) (id:=186) (z:=5) (b:=48) (zero:=svcZ) (by kernel_rfl) (by kernel_rfl) (by decide) (by decide) (fun _=>rfl) hc.2.1 h
 have c3:=fun h=>S_cloneV (E:=EO) (T:=TO) (val:=valO) (cells:=Way.c) (id:=187) (z:=2) (b:=16) (zero:=wayZ) (by kernel_rfl) (by kernel_rfl) (by decide) (by decide) (fun _=>rfl) hc.2.2.1 h
 have c4:=fun h=>S_cloneR (E:=EO) (T:=TO) (val:=valO) (id:=188) (z:=5) (b:=64) (zero:=polZ) (by kernel_rfl) (by kernel_rfl) (by decide) (by decide) (nl:=c.policies.nl) (es:=c.policies.l.map Pol.c) (by simp) (by simpa using hc.2.2.2.1.1) h
 have hp4:put (c.c.map V.d) 4 [.d (c.pods.d Pod.c)] = some (c.c.map V.d):=rfl
 have hp5:put (c.c.map V.d) 5 [.d (c.services.d Svc.c)] = some (c.c.map V.d):=rfl
 have hp6:put (c.c.map V.d) 6 [.d (c.bound.d Way.c)] = some (c.c.map V.d):=rfl
 have hp7:∀ v,put (c.c.map V.d) 7 [v] = some (Cq c v):=fun _=>rfl
 have hs7:∀ v,sub (Cq c v) 7 1 = some [v]:=fun _=>rfl
 have hs8:∀ v,sub (Cq c v) 0 8 = some (Cq c v):=fun _=>rfl
 have hcl:∀ v,(Cq c v).length = 8:=fun _=>rfl
 have hpz:∀ v (z:List V),z.length = 8 -> put z 0 (Cq c v) = some (Cq c v):=fun v z hz=>by simp [put,hz,hcl]
 have hcv:∀ h v l,dataV h 8 v = some (.slice c.policies.nl l) -> l = (c.policies.l.map Pol.own).map Pol.c -> cellsV h (Cq c v) = some c.own.c:=fun h v l hv hl=>by
  subst hl
  simp only [Cq,cellsV_cons]
  simp only [cellsV,List.mapM_cons,List.mapM_nil,hv]
  rfl
 rw [Sm_v (q:=q90) (by kernel_rfl) (by kernel_rfl)]
 have key:=Cd_round (E:=EO) (T:=TO) (val:=valO) [1,2,22,23,24] q90_b0
 cases hnl:c.policies.nl with
 | true =>
  have hl:=hc.2.2.2.1.2 hnl
  have hd:c.policies.d Pol.c = .slice true []:=by simp [Sl.d,hnl,hl]
  rw [hnl,hl] at c4
  simp [cloneR] at c4
  have hv:=hcv ⟨[.cells (Cq c (.d (.slice true []))),.cells (Cq c (.d (.slice true [])))],0⟩ (.d (.slice true [])) [] (by rw [hnl]; rfl) (by rw [hl]; rfl)
  simp (decide:=true) [Bd_mk,q90,hd,c1,c2,c3,c4,hp4,hp5,hp6,hp7,hs7,hs8,openA,opDE_call,noTr]
  rw [Cd_keep]
  simp
  rw [key]
  simp [q90_b0,hs8,hpz,hcl,hv]
 | false =>
  rw [hnl] at c4
  cases hll:c.policies.l with
  | nil =>
   rw [hll] at c4
   simp [cloneR] at c4
   have hd:c.policies.d Pol.c = .slice false []:=by simp [Sl.d,hnl,hll]
   have hr:=dataV_row (h:=⟨[.cells (Cq c (.row 2 0 0 (some 0) 5)),.cells (Cq c (.row 2 0 0 (some 0) 5)),.cells []],0⟩) (k:=7) (b:=2) (n:=0) (cap:=some 0) (es:=[]) (z:=5) (rest:=[]) (by simp) rfl rfl
   have hv:=hcv ⟨[.cells (Cq c (.row 2 0 0 (some 0) 5)),.cells (Cq c (.row 2 0 0 (some 0) 5)),.cells []],0⟩ (.row 2 0 0 (some 0) 5) [] (by rw [hnl]; exact hr) (by rw [hll]; rfl)
   simp (decide:=true) [Bd_mk,q90,hd,c1,c2,c3,c4,hp4,hp5,hp6,hp7,hs7,hs8,openA,opDE_call,noTr]
   rw [Cd_keep]
   simp
   rw [key]
   simp [q90_b0,hs8,hpz,hcl,hv]
  | cons p l' =>
   have hne:c.policies.l ≠ []:=by rw [hll]; simp
   have hd:c.policies.d Pol.c = .slice false (c.policies.l.map Pol.c):=by simp [Sl.d,hnl]
   have hc2:∀ bs lo,cloneR 5 false (c.policies.l.map Pol.c) bs lo = (.row (bs.length + 1) 0 c.policies.l.length none 5,⟨bs ++ [.cells [],.cells (flat (c.policies.l.map Pol.c))],lo⟩):=fun bs lo=>by
    rw [hll]; simp [cloneR]
   simp only [hc2] at c4
   have hf:∀ p ∈ c.policies.l,p.ok:=hc.2.2.2.2
   have hlen:c.policies.l.length < 2 ^ 62:=hc.2.2.2.1.lt
   clear hll hc2
   generalize hPL:c.policies.l = l at *
   have hT:∀ R:Blk,Thin Pol.c 5 l [.cells (Cq c (.row 3 0 l.length none 5)),R,.cells [],.cells (flat (l.map Pol.c))] 3 [] [.cells (Cq c (.row 3 0 l.length none 5)),R,.cells [],.cells (flat (l.map Pol.c))]:=fun R=>⟨Nat.le_refl _,fun _ _ _=>rfl,by simp⟩
   obtain ⟨bs',lo',k1,k2⟩:=L90 hlen hf (b:=3) (by simp) (by decide) (Co:=Cq c (.row 3 0 l.length none 5)) rfl rfl l.length 0 [] _ 0 (by omega) rfl (hT (.cells [(.d (.int .u64 0)),(.d (.int .u64 0)),(.d (.int .i64 0)),(.d (.int .i64 0)),(.d (.slice true [])),(.d (.slice true [])),(.d (.slice true [])),(.d (.slice true []))]))
   simp only [List.nil_append,List.drop_zero] at k2
   have g0:getB bs' 0 = some (Cq c (.row 3 0 l.length none 5)):=by simp only [getB]; rw [k2.old 0 (by decide) (by simp)]; rfl
   have g1:getB bs' 1 = some [(.d (.int .u64 0)),(.d (.int .u64 0)),(.d (.int .i64 0)),(.d (.int .i64 0)),(.d (.slice true [])),(.d (.slice true [])),(.d (.slice true [])),(.d (.slice true []))]:=by simp only [getB]; rw [k2.old 1 (by decide) (by simp)]; rfl
   have hl1:1 < bs'.length:=getB_len g1
   have g3:=k2.row
   have gs0:∀ cs,getB (bs'.set 1 (.cells cs)) 1 = some cs:=fun cs=>by simp [getB,hl1]
   have hr:=fun cs lo=>dataV_row (h:=⟨bs'.set 1 (.cells cs),lo⟩) (k:=7) (b:=3) (n:=l.length) (cap:=none) (es:=(l.map Pol.own).map Pol.c) (z:=5) (rest:=[]) (by simp) (by simp) (by
    simp only [getB]
    rw [List.getElem?_set_ne (by decide)]
    simp only [getB] at g3
    rw [g3]
    simp
    have hfl:=flatT_len (cells:=Pol.c) (z:=5) (fun _=>rfl) l
    rw [hfl]; exact Nat.le_refl _)
   have hv:=fun cs lo=>hcv ⟨bs'.set 1 (.cells cs),lo⟩ (.row 3 0 l.length none 5) _ (by rw [hnl]; exact hr cs lo) rfl
   simp (decide:=true) [Bd_mk,q90,hd,c1,c2,c3,c4,hp4,hp5,hp6,hp7,hs7,hs8,openA,opDE_call,noTr]
   rw [Cd_keep]
   simp at k1
   simp [k1,g0,g1,gs0,hs8,hpz,hcl,hv]
end Go.Proofs.YtmnfjejphmmddaaGreat
namespace Go.Proofs.YtmnfjejphmmddaaGreat
theorem fit_empty {α:Type} {B:Nat} {l:List α} (h:l.length <= B):fit B ⟨l.isEmpty,l⟩:=⟨h,fun hh=>by simpa using hh⟩
theorem Rule.own_wf {B:Nat} {r:Rule} (h:r.wf B):r.own.wf B:=⟨⟨fit_empty h.1.1.1,h.1.2⟩,⟨fit_empty h.2.1.1.1,h.2.1.2⟩,⟨fit_empty h.2.2.1.1,h.2.2.2⟩⟩
theorem Pol.own_wf {B:Nat} {p:Pol} (h:p.wf B):p.own.wf B:=by
 refine ⟨h.1,h.2.1,h.2.2.1,h.2.2.2.1,⟨?_,fun hh=>by simpa [Pol.own] using hh⟩,fun x hx=>?_⟩
 · simp only [Pol.own,List.length_map]; exact h.2.2.2.2.1.1
 · obtain ⟨r,hr,rfl⟩:=List.mem_map.1 hx
   exact Rule.own_wf (h.2.2.2.2.2 r hr)
theorem Cfg.own_wf {B:Nat} {c:Cfg} (h:c.wf B):c.own.wf B:=by
 obtain ⟨h1,h2,h3,h4,h5,h6,h7,h8⟩:=h
 refine ⟨h1,h2,h3,h4,h5,h6,h7,⟨?_,fun hh=>?_⟩,fun x hx=>?_⟩
 · simp only [Cfg.own,List.length_map]; exact h8.1.1
 · simp only [Cfg.own] at hh ⊢; rw [h8.1.2 hh]; rfl
 · obtain ⟨p,hp,rfl⟩:=List.mem_map.1 hx
   exact Pol.own_wf (h8.2 p hp)
def Edt.wf (B:Nat) (e:Edt):Prop:=Inr .i64 e.kind /\ Inr .u64 e.id /\ e.pod.wf B /\ e.svc.wf B /\ e.way.wf B /\ e.pol.wf B
theorem smallT_le {c:Cfg} (h:smallT c = true):c.pods.l.length <= 16 /\ c.services.l.length <= 6 /\ c.bound.l.length <= 4 /\ c.policies.l.length <= 12:=by
 simp only [smallT,Bool.and_eq_true,decide_eq_true_eq] at h
 omega
section
variable {E:Calls'} (hE:WithE E) (h385:∀ t:Target,t.wf big -> ∀ h,E 385 [ag t.c] h = some (bl (targetMay t),h)) (h90:∀ args h,E 90 args h = Sm EO TO valO 90 args h)
include hE h385 h90
end
end Go.Proofs.YtmnfjejphmmddaaGreat
namespace Go.Proofs.YtmnfjejphmmddaaGreat
section
variable {E:Calls'} (h385:∀ t:Target,t.wf big -> ∀ h,E 385 [ag t.c] h = some (bl (targetMay t),h))
end
end Go.Proofs.YtmnfjejphmmddaaGreat
namespace Go.Proofs.YtmnfjejphmmddaaGreat
end Go.Proofs.YtmnfjejphmmddaaGreat
namespace Go.Proofs.YtmnfjejphmmddaaGreat
section
variable {E:Calls'} {T:FuncId -> Option QF} {val:FuncId -> Bool}
end
end Go.Proofs.YtmnfjejphmmddaaGreat
namespace Go.Proofs.YtmnfjejphmmddaaGreat
def Lg (n:Int) (x:Int):Prop:=0 <= n /\ x < 2 ^ n.toNat /\ (1 <= x -> 2 ^ n.toNat <= 2 * x)
theorem lenT_ok:((List.range 256).all fun i=>decide ((i:Int) < 2 ^ (lenT i).toNat) && (decide (i = 0) || decide ((2:Int) ^ (lenT i).toNat <= 2 * i))) = true:=by decide +kernel
theorem Lg_base {x:Int} (h0:0 <= x) (h1:x < 256):Lg (lenT (IntKind.wrap .u8 x).toNat) x:=by
 have hw:IntKind.wrap .u8 x = x:=by simp [IntKind.wrap,IntKind.bits,IntKind.signed]; omega
 rw [hw]
 have:=List.all_eq_true.1 lenT_ok x.toNat (List.mem_range.2 (by omega))
 simp only [Bool.and_eq_true,Bool.or_eq_true,decide_eq_true_eq] at this
 have hx:((x.toNat:Nat):Int) = x:=by omega
 rw [hx] at this
 exact ⟨(lenT_le _).1,this.1,fun h=>by rcases this.2 with h2 | h2 <;> omega⟩
theorem Lg_shift {n x K:Int} (k:Nat) (hK:K = 2 ^ k) (hK0:0 < K) (hx:K <= x) (h:Lg n (x.fdiv K)):Lg ((k:Int) + n) x:=by
 obtain ⟨h0,h1,h2⟩:=h
 have e:((k:Int) + n).toNat = k + n.toNat:=by omega
 rw [Int.fdiv_eq_ediv_of_nonneg _ (by omega)] at h1 h2
 have hp:(2:Int) ^ (k + n.toNat) = K * 2 ^ n.toNat:=by rw [Int.pow_add,← hK]
 have hd:=Int.mul_ediv_add_emod x K
 have hm:=Int.emod_nonneg x (show K ≠ 0 by omega)
 have hl:=Int.emod_lt_of_pos x hK0
 have hq:1 <= x / K:=by
  have:=(Int.le_ediv_iff_mul_le hK0 (a:=1) (b:=x)).2 (by omega)
  exact this
 refine ⟨by omega,?_,fun _=>?_⟩
 · rw [e,hp]
   have:=(Int.ediv_lt_iff_lt_mul hK0).1 h1
   rw [Int.mul_comm]; exact this
 · rw [e,hp]
   have h3:=Int.mul_le_mul_of_nonneg_left (h2 hq) (Int.le_of_lt hK0)
   have h4:K * (2 * (x / K)) = 2 * (K * (x / K)):=by rw [Int.mul_left_comm]
   omega
theorem len64_ok {x:Int} (h0:0 <= x) (h1:x < 2 ^ 64):Lg (len64 x) x:=by
 have hb:∀ y,0 <= y -> y < 65536 -> Lg ((if y >= 256 then 8 else 0) + lenT (IntKind.wrap .u8 (lenC y)).toNat) y:=by
  intro y a b
  by_cases c:y >= 256
  · rw [if_pos c,lenC,if_pos c]
    have hd:y.fdiv 256 = y / 256:=Int.fdiv_eq_ediv_of_nonneg _ (by omega)
    exact Lg_shift (K:=256) 8 (by decide) (by omega) c (Lg_base (by rw [hd]; omega) (by rw [hd]; omega))
  · rw [if_neg c,lenC,if_neg c,Int.zero_add]
    exact Lg_base a (by omega)
 have ha:∀ y,0 <= y -> y < 4294967296 -> Lg ((if y >= 65536 then 16 else 0) + ((if lenB y >= 256 then 8 else 0) + lenT (IntKind.wrap .u8 (lenC (lenB y))).toNat)) y:=by
  intro y a b
  by_cases c:y >= 65536
  · have hB:lenB y = y.fdiv 65536:=by rw [lenB,if_pos c]
    rw [if_pos c,hB]
    have hd:y.fdiv 65536 = y / 65536:=Int.fdiv_eq_ediv_of_nonneg _ (by omega)
    exact Lg_shift (K:=65536) 16 (by decide) (by omega) c (hb _ (by rw [hd]; omega) (by rw [hd]; omega))
  · have hB:lenB y = y:=by rw [lenB,if_neg c]
    rw [if_neg c,hB,Int.zero_add]
    exact hb _ a (by omega)
 have hz:len64 x = (if x >= 4294967296 then 32 else 0) + ((if lenA x >= 65536 then 16 else 0) + ((if lenB (lenA x) >= 256 then 8 else 0) + lenT (IntKind.wrap .u8 (lenC (lenB (lenA x)))).toNat)):=by
  unfold len64; omega
 rw [hz]
 by_cases c:x >= 4294967296
 · have hA:lenA x = x.fdiv 4294967296:=by rw [lenA,if_pos c]
   rw [if_pos c,hA]
   have hd:x.fdiv 4294967296 = x / 4294967296:=Int.fdiv_eq_ediv_of_nonneg _ (by omega)
   exact Lg_shift (K:=4294967296) 32 (by decide) (by omega) c (ha _ (by rw [hd]; omega) (by rw [hd]; omega))
 · have hA:lenA x = x:=by rw [lenA,if_neg c]
   rw [if_neg c,hA,Int.zero_add]
   exact ha _ h0 (by omega)
theorem polMay_own (p:Pol):polMay p.own = polMay p:=by
 have:(p.rules.l.map Rule.own).all ruleMay = p.rules.l.all ruleMay:=by rw [List.all_map]; rfl
 simp only [polMay,Pol.own,List.length_map,this]
 rfl
end Go.Proofs.YtmnfjejphmmddaaGreat
namespace Go.Proofs.YtmnfjejphmmddaaGreat
end Go.Proofs.YtmnfjejphmmddaaGreat
