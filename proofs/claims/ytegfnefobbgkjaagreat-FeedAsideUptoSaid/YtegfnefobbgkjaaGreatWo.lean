/- config.without, config.with: at any width. -/
import Derived.Test.YtegfnefobbgkjaaGreatCp
import Derived.Test.YtegfnefobbgkjaaGreatSa
import Derived.Test.YtegfnefobbgkjaaGreatWa
import Derived.Test.YtegfnefobbgkjaaGreatQt
import Derived.Test.YtegfnefobbgkjaaGreatGn
import Derived.Test.YtegfnefobbgkjaaGreatGm
set_option maxRecDepth 100000
set_option linter.unusedVariables false
set_option linter.unusedSimpArgs false
namespace Go.Proofs.YtegfnefobbgkjaaGreat
section
variable {E:Calls'} {T:FuncId -> Option QF} {val:FuncId -> Bool}
theorem sub_c {e:List D} {z:Nat} (he:e.length = z):sub (e.map V.d) 0 z = some (e.map V.d):=sub_all (by simpa using he)
end
end Go.Proofs.YtegfnefobbgkjaaGreat
namespace Go.Proofs.YtegfnefobbgkjaaGreat
section
variable {E:Calls'} {T:FuncId -> Option QF} {val:FuncId -> Bool}
theorem apartT_one {pr:List (List Nat)} {l:List Tr} (k:Nat) (hk:(List.range l.length).all (fun j=>j == k || (pr.getD k []).contains j || (pr.getD j []).contains k) = true) (hm:(l.take k ++ l.drop (k + 1)).all Tr.mute = true):apartT pr l = true:=by
 rw [List.all_eq_true] at hk hm
 have hmm:∀ j,j < l.length -> j ≠ k -> ∃ t,l[j]? = some t /\ t.mute = true:=by
  intro j hj hjk
  refine ⟨l[j],by simp [hj],hm _ ?_⟩
  rw [List.mem_append]
  rcases Nat.lt_or_gt_of_ne hjk with h | h
  · left
    rw [List.mem_take_iff_getElem]
    exact ⟨j,by omega,rfl⟩
  · right
    rw [List.mem_drop_iff_getElem]
    exact ⟨j - (k + 1),by omega,by congr 1; omega⟩
 unfold apartT
 simp only [List.all_eq_true,List.mem_range]
 intro i hi j hj
 by_cases hij:i = j
 · simp [hij]
 by_cases hik:i = k
 · subst hik
   have:=hk j (by simpa using hj)
   simp only [Bool.or_eq_true,beq_iff_eq] at this ⊢
   rcases this with (h | h) | h
   · exact absurd h.symm hij
   · exact .inl (.inl (.inr h))
   · exact .inl (.inr h)
 by_cases hjk:j = k
 · subst hjk
   have:=hk i (by simpa using hi)
   simp only [Bool.or_eq_true,beq_iff_eq] at this ⊢
   rcases this with (h | h) | h
   · exact absurd h hij
   · exact .inl (.inr h)
   · exact .inl (.inl (.inr h))
 obtain ⟨s,hs,ms⟩:=hmm i hi hik
 obtain ⟨t,ht,mt⟩:=hmm j hj hjk
 simp only [Tr.mute,Bool.and_eq_true,Bool.not_eq_true',List.isEmpty_iff,beq_iff_eq] at ms mt
 have:s.spares t = true:=by
  unfold Tr.spares
  rw [ms.1.1,mt.1.1,ms.1.2,ms.2]
  cases t.call <;> simp
 simp [hs,ht,this]
end
end Go.Proofs.YtegfnefobbgkjaaGreat
namespace Go.Proofs.YtegfnefobbgkjaaGreat
end Go.Proofs.YtegfnefobbgkjaaGreat
namespace Go.Proofs.YtegfnefobbgkjaaGreat
def svcZ:List V:=[(.d (.int .u64 0)),(.d (.str ⟨#[]⟩)),(.d (.int .u32 0)),(.d (.int .i64 0)),(.d (.int .u64 0))]
def wayZ:List V:=[(.d (.int .u64 0)),(.d (.int .i64 0))]
def polZ:List V:=[(.d (.int .u64 0)),(.d (.str ⟨#[]⟩)),(.d (.int .u64 0)),(.d (.int .i64 0)),(.d (.slice true []))]
end Go.Proofs.YtegfnefobbgkjaaGreat
namespace Go.Proofs.YtegfnefobbgkjaaGreat
structure Edt where
 kind:Int
 id:Int
 pod:Pod
 svc:Svc
 way:Way
 pol:Pol
def Edt.c (e:Edt):List D:=[i64 e.kind,u64 e.id] ++ e.pod.c ++ e.svc.c ++ e.way.c ++ e.pol.c
@[simp] theorem Edt.len {x:Edt}:x.c.length = 21:=(rfl)
@[simp] theorem Edt.all {x:Edt}:sub x.c 0 21 = some x.c:=(rfl)
@[simp] theorem Edt.s0_1 {x:Edt}:sub x.c 0 1 = some [i64 x.kind]:=(rfl)
@[simp] theorem Edt.s1_1 {x:Edt}:sub x.c 1 1 = some [u64 x.id]:=(rfl)
@[simp] theorem Edt.s2_7 {x:Edt}:sub x.c 2 7 = some x.pod.c:=(rfl)
@[simp] theorem Edt.s9_5 {x:Edt}:sub x.c 9 5 = some x.svc.c:=(rfl)
@[simp] theorem Edt.s14_2 {x:Edt}:sub x.c 14 2 = some x.way.c:=(rfl)
@[simp] theorem Edt.s16_5 {x:Edt}:sub x.c 16 5 = some x.pol.c:=(rfl)
@[simp] theorem Edt.s5_1 {x:Edt}:sub x.c 5 1 = some [i64 x.pod.host]:=(rfl)
@[simp] theorem Edt.s6_1 {x:Edt}:sub x.c 6 1 = some [u32 x.pod.addr]:=(rfl)
theorem Cfg.p0 {x:Cfg} {n:Int}:put (x.c.map V.d) 0 [.d (u64 n)] = some (({ x with epoch:=n }:Cfg).c.map V.d):=(rfl)
theorem Cfg.p1 {x:Cfg} {n:Int}:put (x.c.map V.d) 1 [.d (u64 n)] = some (({ x with next:=n }:Cfg).c.map V.d):=(rfl)
theorem Cfg.p4 {x:Cfg} {s:Sl Pod}:put (x.c.map V.d) 4 [.d (s.d Pod.c)] = some (({ x with pods:=s }:Cfg).c.map V.d):=(rfl)
theorem Cfg.p5 {x:Cfg} {s:Sl Svc}:put (x.c.map V.d) 5 [.d (s.d Svc.c)] = some (({ x with services:=s }:Cfg).c.map V.d):=(rfl)
theorem Cfg.p6 {x:Cfg} {s:Sl Way}:put (x.c.map V.d) 6 [.d (s.d Way.c)] = some (({ x with bound:=s }:Cfg).c.map V.d):=(rfl)
theorem Cfg.p7 {x:Cfg} {s:Sl Pol}:put (x.c.map V.d) 7 [.d (s.d Pol.c)] = some (({ x with policies:=s }:Cfg).c.map V.d):=(rfl)
theorem Pod.p0 {x:Pod} {n:Int}:put (x.c.map V.d) 0 [.d (u64 n)] = some (({ x with uid:=n }:Pod).c.map V.d):=(rfl)
theorem Pod.p3 {x:Pod} {n:Int}:put (x.c.map V.d) 3 [.d (i64 n)] = some (({ x with host:=n }:Pod).c.map V.d):=(rfl)
theorem Pod.p4 {x:Pod} {n:Int}:put (x.c.map V.d) 4 [.d (u32 n)] = some (({ x with addr:=n }:Pod).c.map V.d):=(rfl)
end Go.Proofs.YtegfnefobbgkjaaGreat
namespace Go.Proofs.YtegfnefobbgkjaaGreat
end Go.Proofs.YtegfnefobbgkjaaGreat
namespace Go.Proofs.YtegfnefobbgkjaaGreat
end Go.Proofs.YtegfnefobbgkjaaGreat
namespace Go.Proofs.YtegfnefobbgkjaaGreat
noncomputable def EO:Calls':=fun f args h=>Sm (fun _ _ _=>none) TT valT f args h
def tabO:List (Nat × QF):=[(45,q90),(38,q106),(39,q186),(40,q187),(82,q188)]
def TO:FuncId -> Option QF:=lookT tabO
def valO (f:FuncId):Bool:=[45,38,39,40].any fun n=>Nat.beq n f
theorem o113:TO 83 = none:=by kernel_rfl
theorem O113 (p:Pol) (hp:p.fits big) (h:Hp):Sm EO TO valO 83 [ag p.c] h = some (ag p.own.c,h):=by
 rw [Sm_ext o113]; exact S113 p hp h
theorem L90 {l:List Pol} (hl:l.length < 2 ^ 62) (hf:∀ p ∈ l,p.ok) {bs0:List Blk} {b:Nat} (hb0:b < bs0.length) (hb1:b ≠ 0) {Co:List V} (hco:bs0[0]? = some (.cells Co)) (hco7:sub Co 7 1 = some [.row b 0 l.length none 5]):∀ (m i:Nat) (kept:List Pol) (bs:List Blk) (lo:Nat),i + m = l.length -> kept.length = i -> Thin Pol.c 5 l bs0 b kept bs →
 ∃ bs' lo',Cd EO TO valO (.loop [1,2,22,23,24] q90_b0) [(1,.ptr 0 0),(2,.ptr 1 0),(22,.row b 0 l.length none 5),(23,.d (i64 l.length)),(24,.d (i64 i))] ⟨bs,lo⟩ = some (.exit 0,[(1,.ptr 0 0),(2,.ptr 1 0)],⟨bs',lo'⟩) ∧
  Thin Pol.c 5 l bs0 b (kept ++ (l.drop i).map Pol.own) bs':=by
 intro m
 have key:=Cd_round (E:=EO) (T:=TO) (val:=valO) [1,2,22,23,24] q90_b0
 generalize Cd EO TO valO (.loop [1,2,22,23,24] q90_b0) = W at key ⊢
 induction m with
 | zero =>
  intro i kept bs lo hi hk ht
  have h0:l.drop i = []:=List.drop_eq_nil_of_le (by omega)
  refine ⟨bs,lo,?_,by simpa [h0] using ht⟩
  rw [key]
  simp [q90_b0,show ¬ ((i:Int) < l.length) from by omega]
 | succ m ih =>
  intro i kept bs lo hi hk ht
  have hlt:i < l.length:=by omega
  have hd:l.drop i = l[i] :: l.drop (i + 1):=List.drop_eq_getElem_cons hlt
  have hcz:∀ x:Pol,(Pol.c x).length = 5:=fun _=>rfl
  have hread:=ht.read hcz (j:=i) (by omega) hlt
  have hrow:=ht.row
  have hfx:=hf _ (List.getElem_mem hlt)
  generalize l[i] = x at *
  have hix:∀ bs lo,idxv none 5 (.row b 0 l.length none 5) (.d (.int .i64 i)) ⟨bs,lo⟩ = some (.ptr b (i * 5),⟨bs,lo⟩):=by
   intro bs lo; simp only [idxv]; rw [if_pos ⟨by omega,by omega,trivial⟩]; simp
  have hw:=int_next hlt hl
  have hcall:=fun h=>O113 x hfx h
  have hput:put polZ 0 (x.c.map V.d) = some (x.c.map .d):=rfl
  have ht1:=ht.lay (.cells (x.c.map .d))
  obtain ⟨cs,hcs,ht2⟩:=ht1.keep hcz (e:=x.own) (by omega)
  rw [hk] at hcs
  have hrow1:=ht1.row
  rw [hk] at hrow hread hrow1
  have hc0:getB (bs ++ [Blk.cells (x.c.map V.d)]) 0 = some Co:=by
   simp only [getB]
   rw [ht1.old 0 (Ne.symm hb1) (by omega),hco]
  have hset:∀ lo,Hp.set ⟨bs ++ [Blk.cells (x.c.map V.d)],lo⟩ b cs = ⟨(bs ++ [Blk.cells (x.c.map V.d)]).set b (Blk.cells cs),min lo b⟩:=fun _=>rfl
  obtain ⟨bs',lo',k1,k2⟩:=ih (i + 1) (kept ++ [x.own]) _ (min (min lo bs.length) b) (by omega) (by simp; omega) ht2
  refine ⟨bs',lo',?_,by simpa [hd] using k2⟩
  generalize hB:(bs ++ [Blk.cells (x.c.map .d)]).set b (Blk.cells cs) = B at *
  rw [key]
  have hpz:polZ = [(.d (.int .u64 0)),(.d (.str ⟨#[]⟩)),(.d (.int .u64 0)),(.d (.int .i64 0)),(.d (.slice true []))]:=rfl
  rw [hpz] at hput
  simp [q90_b0,hix,ldv,hrow,hread,hput,hcall,hw,hrow1,hcs,hset,hc0,hco7,openA,opDE_call,noTr,show ((i:Int) < l.length) from by omega]
  rw [if_pos (apartT_one 6 (by rfl) (by simp [Tr.mute]))]
  simp [hw]
  simpa using k1
def Cfg.own (c:Cfg):Cfg:={ c with policies:=⟨c.policies.nl,c.policies.l.map Pol.own⟩ }
def Cq (c:Cfg) (v:V):List V:=[.d (u64 c.epoch),.d (u64 c.next),.d (i64 c.hosts),.d (i64 c.ways),.d (c.pods.d Pod.c),.d (c.services.d Svc.c),.d (c.bound.d Way.c),v]
theorem O90 (c:Cfg) (hc:c.ok) (h:Hp):Sm EO TO valO 45 [c.v] h = some (c.own.v,h):=by
 have c1:=fun h=>S_cloneV (E:=EO) (T:=TO) (val:=valO) (cells:=Pod.c) (id:=38) (z:=7) (b:=72) (zero:=pod0V) (by kernel_rfl) (by kernel_rfl) (by decide) (by decide) (fun _=>rfl) hc.1 h
 have c2:=fun h=>S_cloneV (E:=EO) (T:=TO) (val:=valO) (cells:=Svc.c) (id:=39) (z:=5) (b:=48) (zero:=svcZ) (by kernel_rfl) (by kernel_rfl) (by decide) (by decide) (fun _=>rfl) hc.2.1 h
 have c3:=fun h=>S_cloneV (E:=EO) (T:=TO) (val:=valO) (cells:=Way.c) (id:=40) (z:=2) (b:=16) (zero:=wayZ) (by kernel_rfl) (by kernel_rfl) (by decide) (by decide) (fun _=>rfl) hc.2.2.1 h
 have c4:=fun h=>S_cloneR (E:=EO) (T:=TO) (val:=valO) (id:=82) (z:=5) (b:=64) (zero:=polZ) (by kernel_rfl) (by kernel_rfl) (by decide) (by decide) (nl:=c.policies.nl) (es:=c.policies.l.map Pol.c) (by simp) (by simpa using hc.2.2.2.1.1) h
 have hp4:put (c.c.map V.d) 4 [.d (c.pods.d Pod.c)] = some (c.c.map V.d):=rfl
 have hp5:put (c.c.map V.d) 5 [.d (c.services.d Svc.c)] = some (c.c.map V.d):=rfl
 have hp6:put (c.c.map V.d) 6 [.d (c.bound.d Way.c)] = some (c.c.map V.d):=rfl
 have hp7:∀ v,put (c.c.map V.d) 7 [v] = some (Cq c v):=fun _=>rfl
 have hs7:∀ v,sub (Cq c v) 7 1 = some [v]:=fun _=>rfl
 have hs8:∀ v,sub (Cq c v) 0 8 = some (Cq c v):=fun _=>rfl
 have hcl:∀ v,(Cq c v).length = 8:=fun _=>rfl
 have hpz:∀ v (z:List V),z.length = 8 -> put z 0 (Cq c v) = some (Cq c v):=fun v z hz=>by simp [put,hz,hcl]
 have hcv:∀ h v l,dataV h 8 v = some (.slice c.policies.nl l) -> l = (c.policies.l.map Pol.own).map Pol.c -> cellsV h (Cq c v) = some c.own.c:=fun h v l hv hl=>by
  subst hl
  simp only [Cq,cellsV_cons]
  simp only [cellsV,List.mapM_cons,List.mapM_nil,hv]
  rfl
 rw [Sm_v (q:=q90) (by kernel_rfl) (by kernel_rfl)]
 have key:=Cd_round (E:=EO) (T:=TO) (val:=valO) [1,2,22,23,24] q90_b0
 cases hnl:c.policies.nl with
 | true =>
  have hl:=hc.2.2.2.1.2 hnl
  have hd:c.policies.d Pol.c = .slice true []:=by simp [Sl.d,hnl,hl]
  rw [hnl,hl] at c4
  simp [cloneR] at c4
  have hv:=hcv ⟨[.cells (Cq c (.d (.slice true []))),.cells (Cq c (.d (.slice true [])))],0⟩ (.d (.slice true [])) [] (by rw [hnl]; rfl) (by rw [hl]; rfl)
  simp (decide:=true) [Bd_mk,q90,hd,c1,c2,c3,c4,hp4,hp5,hp6,hp7,hs7,hs8,openA,opDE_call,noTr]
  rw [Cd_keep]
  simp
  rw [key]
  simp [q90_b0,hs8,hpz,hcl,hv]
 | false =>
  rw [hnl] at c4
  cases hll:c.policies.l with
  | nil =>
   rw [hll] at c4
   simp [cloneR] at c4
   have hd:c.policies.d Pol.c = .slice false []:=by simp [Sl.d,hnl,hll]
   have hr:=dataV_row (h:=⟨[.cells (Cq c (.row 2 0 0 (some 0) 5)),.cells (Cq c (.row 2 0 0 (some 0) 5)),.cells []],0⟩) (k:=7) (b:=2) (n:=0) (cap:=some 0) (es:=[]) (z:=5) (rest:=[]) (by simp) rfl rfl
   have hv:=hcv ⟨[.cells (Cq c (.row 2 0 0 (some 0) 5)),.cells (Cq c (.row 2 0 0 (some 0) 5)),.cells []],0⟩ (.row 2 0 0 (some 0) 5) [] (by rw [hnl]; exact hr) (by rw [hll]; rfl)
   simp (decide:=true) [Bd_mk,q90,hd,c1,c2,c3,c4,hp4,hp5,hp6,hp7,hs7,hs8,openA,opDE_call,noTr]
   rw [Cd_keep]
   simp
   rw [key]
   simp [q90_b0,hs8,hpz,hcl,hv]
  | cons p l' =>
   have hne:c.policies.l ≠ []:=by rw [hll]; simp
   have hd:c.policies.d Pol.c = .slice false (c.policies.l.map Pol.c):=by simp [Sl.d,hnl]
   have hc2:∀ bs lo,cloneR 5 false (c.policies.l.map Pol.c) bs lo = (.row (bs.length + 1) 0 c.policies.l.length none 5,⟨bs ++ [.cells [],.cells (flat (c.policies.l.map Pol.c))],lo⟩):=fun bs lo=>by
    rw [hll]; simp [cloneR]
   simp only [hc2] at c4
   have hf:∀ p ∈ c.policies.l,p.ok:=hc.2.2.2.2
   have hlen:c.policies.l.length < 2 ^ 62:=hc.2.2.2.1.lt
   clear hll hc2
   generalize hPL:c.policies.l = l at *
   have hT:∀ R:Blk,Thin Pol.c 5 l [.cells (Cq c (.row 3 0 l.length none 5)),R,.cells [],.cells (flat (l.map Pol.c))] 3 [] [.cells (Cq c (.row 3 0 l.length none 5)),R,.cells [],.cells (flat (l.map Pol.c))]:=fun R=>⟨Nat.le_refl _,fun _ _ _=>rfl,by simp⟩
   obtain ⟨bs',lo',k1,k2⟩:=L90 hlen hf (b:=3) (by simp) (by decide) (Co:=Cq c (.row 3 0 l.length none 5)) rfl rfl l.length 0 [] _ 0 (by omega) rfl (hT (.cells [(.d (.int .u64 0)),(.d (.int .u64 0)),(.d (.int .i64 0)),(.d (.int .i64 0)),(.d (.slice true [])),(.d (.slice true [])),(.d (.slice true [])),(.d (.slice true []))]))
   simp only [List.nil_append,List.drop_zero] at k2
   have g0:getB bs' 0 = some (Cq c (.row 3 0 l.length none 5)):=by simp only [getB]; rw [k2.old 0 (by decide) (by simp)]; rfl
   have g1:getB bs' 1 = some [(.d (.int .u64 0)),(.d (.int .u64 0)),(.d (.int .i64 0)),(.d (.int .i64 0)),(.d (.slice true [])),(.d (.slice true [])),(.d (.slice true [])),(.d (.slice true []))]:=by simp only [getB]; rw [k2.old 1 (by decide) (by simp)]; rfl
   have hl1:1 < bs'.length:=getB_len g1
   have g3:=k2.row
   have gs0:∀ cs,getB (bs'.set 1 (.cells cs)) 1 = some cs:=fun cs=>by simp [getB,hl1]
   have hr:=fun cs lo=>dataV_row (h:=⟨bs'.set 1 (.cells cs),lo⟩) (k:=7) (b:=3) (n:=l.length) (cap:=none) (es:=(l.map Pol.own).map Pol.c) (z:=5) (rest:=[]) (by simp) (by simp) (by
    simp only [getB]
    rw [List.getElem?_set_ne (by decide)]
    simp only [getB] at g3
    rw [g3]
    simp
    have hfl:=flatT_len (cells:=Pol.c) (z:=5) (fun _=>rfl) l
    rw [hfl]; exact Nat.le_refl _)
   have hv:=fun cs lo=>hcv ⟨bs'.set 1 (.cells cs),lo⟩ (.row 3 0 l.length none 5) _ (by rw [hnl]; exact hr cs lo) rfl
   simp (decide:=true) [Bd_mk,q90,hd,c1,c2,c3,c4,hp4,hp5,hp6,hp7,hs7,hs8,openA,opDE_call,noTr]
   rw [Cd_keep]
   simp at k1
   simp [k1,g0,g1,gs0,hs8,hpz,hcl,hv]
end Go.Proofs.YtegfnefobbgkjaaGreat
namespace Go.Proofs.YtegfnefobbgkjaaGreat
theorem fit_empty {α:Type} {B:Nat} {l:List α} (h:l.length <= B):fit B ⟨l.isEmpty,l⟩:=⟨h,fun hh=>by simpa using hh⟩
theorem Rule.own_wf {B:Nat} {r:Rule} (h:r.wf B):r.own.wf B:=⟨⟨fit_empty h.1.1.1,h.1.2⟩,⟨fit_empty h.2.1.1.1,h.2.1.2⟩,⟨fit_empty h.2.2.1.1,h.2.2.2⟩⟩
theorem Pol.own_wf {B:Nat} {p:Pol} (h:p.wf B):p.own.wf B:=by
 refine ⟨h.1,h.2.1,h.2.2.1,h.2.2.2.1,⟨?_,fun hh=>by simpa [Pol.own] using hh⟩,fun x hx=>?_⟩
 · simp only [Pol.own,List.length_map]; exact h.2.2.2.2.1.1
 · obtain ⟨r,hr,rfl⟩:=List.mem_map.1 hx
   exact Rule.own_wf (h.2.2.2.2.2 r hr)
theorem Cfg.own_wf {B:Nat} {c:Cfg} (h:c.wf B):c.own.wf B:=by
 obtain ⟨h1,h2,h3,h4,h5,h6,h7,h8⟩:=h
 refine ⟨h1,h2,h3,h4,h5,h6,h7,⟨?_,fun hh=>?_⟩,fun x hx=>?_⟩
 · simp only [Cfg.own,List.length_map]; exact h8.1.1
 · simp only [Cfg.own] at hh ⊢; rw [h8.1.2 hh]; rfl
 · obtain ⟨p,hp,rfl⟩:=List.mem_map.1 hx
   exact Pol.own_wf (h8.2 p hp)
def Edt.wf (B:Nat) (e:Edt):Prop:=Inr .i64 e.kind /\ Inr .u64 e.id /\ e.pod.wf B /\ e.svc.wf B /\ e.way.wf B /\ e.pol.wf B
theorem smallT_le {c:Cfg} (h:smallT c = true):c.pods.l.length <= 16 /\ c.services.l.length <= 6 /\ c.bound.l.length <= 4 /\ c.policies.l.length <= 12:=by
 simp only [smallT,Bool.and_eq_true,decide_eq_true_eq] at h
 omega
end Go.Proofs.YtegfnefobbgkjaaGreat
namespace Go.Proofs.YtegfnefobbgkjaaGreat
end Go.Proofs.YtegfnefobbgkjaaGreat
namespace Go.Proofs.YtegfnefobbgkjaaGreat
end Go.Proofs.YtegfnefobbgkjaaGreat
namespace Go.Proofs.YtegfnefobbgkjaaGreat
section
variable {E:Calls'} {T:FuncId -> Option QF} {val:FuncId -> Bool}
theorem eql_loop {α:Type} {cells:α -> List D} {z:Nat} (hz:∀ x,(cells x).length = z) (hz0:0 < z) {k:EQ} {p:α -> α -> Bool} {s t:Sl α} (hl:s.l.length = t.l.length) (hs:s.l.length < 2 ^ 62)
 (he:∀ x y h,eqv k true (ag (cells x)) (ag (cells y)) h = some (.d (.bool (p x y != true)),h)) (h:Hp):∀ (m i:Nat),i + m = s.l.length →
   Cd E T val (.loop [0,1,12,13] (eqlB z k)) [(0,.d (s.d cells)),(1,.d (t.d cells)),(12,.d (i64 s.l.length)),(13,.d (i64 i))] h =
    if all2 p (s.l.drop i) (t.l.drop i) then some (.exit 0,[],h) else some (.ret,[(4,bl false)],h):=by
 intro m
 have key:=Cd_round (E:=E) (T:=T) (val:=val) [0,1,12,13] (eqlB z k)
 generalize Cd E T val (.loop [0,1,12,13] (eqlB z k)) = W at key ⊢
 induction m with
 | zero =>
  intro i hi
  rw [key,List.drop_eq_nil_of_le (by omega),List.drop_eq_nil_of_le (by omega)]
  simp [eqlB,all2,show ¬ ((i:Int) < s.l.length) from by omega]
 | succ m ih =>
  intro i hi
  have h1:i < s.l.length:=by omega
  have h2:i < t.l.length:=by omega
  have hx:=fun h=>idxv_sl (z:=z) h (List.getElem?_eq_getElem h1) (hz _)
  have hy:=fun h=>idxv_sl (z:=z) h (List.getElem?_eq_getElem h2) (hz _)
  have hw:=int_next h1 hs
  have:=ih (i + 1) (by omega)
  rw [key,all2_drop h1 h2]
  generalize s.l[i] = x at *
  generalize t.l[i] = y at *
  have sx:=sub_all (hz x)
  have sy:=sub_all (hz y)
  cases hq:p x y with
  | false=>simp [eqlB,hx,hy,sx,sy,he,hq,hz0,show ((i:Int) < s.l.length) from by omega]
  | true =>
   simp [eqlB,hx,hy,sx,sy,he,hq,hw,hz0,show ((i:Int) < s.l.length) from by omega]
   simpa using this
theorem S_eql {α:Type} {cells:α -> List D} {z:Nat} {id:FuncId} (hz:∀ x,(cells x).length = z) (hz0:0 < z) {k:EQ} {p:α -> α -> Bool} (ht:T id = some (eqlQ z k)) (hv:val id = true) {s t:Sl α} (hs:s.l.length < 2 ^ 62)
 (he:∀ x y h,eqv k true (ag (cells x)) (ag (cells y)) h = some (.d (.bool (p x y != true)),h)) (h:Hp):Sm E T val id [.d (s.d cells),.d (t.d cells)] h = some (bl (all2 p s.l t.l),h):=by
 rw [Sm_v ht hv]
 by_cases hl:s.l.length = t.l.length
 · have k1:=fun h=>eql_loop (E:=E) (T:=T) (val:=val) hz hz0 hl hs he h s.l.length 0 (by omega)
   simp [hl] at k1
   simp [Bd_mk,eqlQ,hl]
   rw [Cd_keep]
   simp [k1]
   cases all2 p s.l t.l <;> simp
 · have hl':¬ ((s.l.length:Int) = t.l.length):=by omega
   rw [all2_ne hl]
   simp [Bd_mk,eqlQ,hl']
theorem eql1_loop {α:Type} {cell:α -> D} {k:EQ} {p:α -> α -> Bool} {s t:Sl α} (hl:s.l.length = t.l.length) (hs:s.l.length < 2 ^ 62)
 (he:∀ x y h,eqv k true (.d (cell x)) (.d (cell y)) h = some (.d (.bool (p x y != true)),h)) (h:Hp):∀ (m i:Nat),i + m = s.l.length →
   Cd E T val (.loop [0,1,12,13] (eql1B k)) [(0,.d (s.d fun x=>[cell x])),(1,.d (t.d fun x=>[cell x])),(12,.d (i64 s.l.length)),(13,.d (i64 i))] h =
    if all2 p (s.l.drop i) (t.l.drop i) then some (.exit 0,[],h) else some (.ret,[(4,bl false)],h):=by
 intro m
 have key:=Cd_round (E:=E) (T:=T) (val:=val) [0,1,12,13] (eql1B k)
 generalize Cd E T val (.loop [0,1,12,13] (eql1B k)) = W at key ⊢
 induction m with
 | zero =>
  intro i hi
  rw [key,List.drop_eq_nil_of_le (by omega),List.drop_eq_nil_of_le (by omega)]
  simp [eql1B,all2,show ¬ ((i:Int) < s.l.length) from by omega]
 | succ m ih =>
  intro i hi
  have h1:i < s.l.length:=by omega
  have h2:i < t.l.length:=by omega
  have hx:=fun h=>idxv_sl (z:=1) h (List.getElem?_eq_getElem h1) (cells:=fun x=>[cell x]) rfl
  have hy:=fun h=>idxv_sl (z:=1) h (List.getElem?_eq_getElem h2) (cells:=fun x=>[cell x]) rfl
  have hw:=int_next h1 hs
  have:=ih (i + 1) (by omega)
  rw [key,all2_drop h1 h2]
  generalize s.l[i] = x at *
  generalize t.l[i] = y at *
  cases hq:p x y with
  | false=>simp [eql1B,hx,hy,he,hq,show ((i:Int) < s.l.length) from by omega]
  | true =>
   simp [eql1B,hx,hy,he,hq,hw,show ((i:Int) < s.l.length) from by omega]
   simpa using this
theorem S_eql1 {α:Type} {cell:α -> D} {id:FuncId} {k:EQ} {p:α -> α -> Bool} (ht:T id = some (eql1Q k)) (hv:val id = true) {s t:Sl α} (hs:s.l.length < 2 ^ 62)
 (he:∀ x y h,eqv k true (.d (cell x)) (.d (cell y)) h = some (.d (.bool (p x y != true)),h)) (h:Hp):Sm E T val id [.d (s.d fun x=>[cell x]),.d (t.d fun x=>[cell x])] h = some (bl (all2 p s.l t.l),h):=by
 rw [Sm_v ht hv]
 by_cases hl:s.l.length = t.l.length
 · have k1:=fun h=>eql1_loop (E:=E) (T:=T) (val:=val) hl hs he h s.l.length 0 (by omega)
   simp [hl] at k1
   simp [Bd_mk,eql1Q,hl]
   rw [Cd_keep]
   simp [k1]
   cases all2 p s.l t.l <;> simp
 · have hl':¬ ((s.l.length:Int) = t.l.length):=by omega
   rw [all2_ne hl]
   simp [Bd_mk,eql1Q,hl']
theorem eqf_loop {α:Type} {cells:α -> List D} {z:Nat} {zero:List V} (hz:∀ x,(cells x).length = z) (hz0:0 < z) (hzero:zero.length = z) {f:FuncId} {p:α -> α -> Bool} {s t:Sl α} (hl:s.l.length = t.l.length) (hs:s.l.length < 2 ^ 62)
 (hf:∀ x ∈ s.l,∀ y ∈ t.l,∀ h,Sm E T val f [ag (cells x),ag (cells y)] h = some (bl (p x y),h)):∀ (m i:Nat) (bs:List Blk) (lo:Nat),i + m = s.l.length -> lo = 0 →
   ∃ bs',Cd E T val (.loop [1,2,15,16,17] (eqfB z zero)) [(1,.d (t.d cells)),(2,.fn f []),(15,.d (s.d cells)),(16,.d (i64 s.l.length)),(17,.d (i64 i))] ⟨bs,lo⟩ =
    if all2 p (s.l.drop i) (t.l.drop i) then some (.exit 0,[],⟨bs',0⟩) else some (.ret,[(6,bl false)],⟨bs',0⟩):=by
 intro m
 have key:=Cd_round (E:=E) (T:=T) (val:=val) [1,2,15,16,17] (eqfB z zero)
 generalize Cd E T val (.loop [1,2,15,16,17] (eqfB z zero)) = W at key ⊢
 induction m with
 | zero =>
  rintro i bs lo hi rfl
  refine ⟨bs,?_⟩
  rw [key,List.drop_eq_nil_of_le (by omega),List.drop_eq_nil_of_le (by omega)]
  simp [eqfB,all2,show ¬ ((i:Int) < s.l.length) from by omega]
 | succ m ih =>
  rintro i bs lo hi rfl
  have h1:i < s.l.length:=by omega
  have h2:i < t.l.length:=by omega
  have hx:=fun h=>idxv_sl (z:=z) h (List.getElem?_eq_getElem h1) (hz _)
  have hy:=fun h=>idxv_sl (z:=z) h (List.getElem?_eq_getElem h2) (hz _)
  have hw:=int_next h1 hs
  have hc:=hf _ (List.getElem_mem h1) _ (List.getElem_mem h2)
  rw [key,all2_drop h1 h2]
  generalize s.l[i] = x at *
  generalize t.l[i] = y at *
  have sx:=sub_all (hz x)
  have sy:=sub_all (hz y)
  have px:put zero 0 ((cells x).map V.d) = some ((cells x).map .d):=by simp [put,hz,hzero]
  have py:put zero 0 ((cells y).map V.d) = some ((cells y).map .d):=by simp [put,hz,hzero]
  cases hq:p x y with
  | false =>
   refine ⟨bs ++ [.cells ((cells x).map .d),.cells ((cells y).map .d)],?_⟩
   simp [eqfB,hx,hy,sx,sy,px,py,hc,hq,hz0,hz,show ((i:Int) < s.l.length) from by omega]
  | true =>
   obtain ⟨bs',q⟩:=ih (i + 1) (bs ++ [.cells ((cells x).map .d),.cells ((cells y).map .d)]) 0 (by omega) rfl
   refine ⟨bs',?_⟩
   simp [eqfB,hx,hy,sx,sy,px,py,hc,hq,hw,hz0,hz,show ((i:Int) < s.l.length) from by omega]
   simpa using q
theorem S_eqf {α:Type} {cells:α -> List D} {z:Nat} {zero:List V} {id:FuncId} (hz:∀ x,(cells x).length = z) (hz0:0 < z) (hzero:zero.length = z) {f:FuncId} {p:α -> α -> Bool} (ht:T id = some (eqfQ z zero)) (hv:val id = true) {s t:Sl α} (hs:s.l.length < 2 ^ 62)
 (hf:∀ x ∈ s.l,∀ y ∈ t.l,∀ h,Sm E T val f [ag (cells x),ag (cells y)] h = some (bl (p x y),h)) (h:Hp):Sm E T val id [.d (s.d cells),.d (t.d cells),.fn f []] h = some (bl (all2 p s.l t.l),h):=by
 rw [Sm_v ht hv]
 have hfr:frz h (.fn f []) = some (.fn f []):=rfl
 by_cases hl:s.l.length = t.l.length
 · obtain ⟨bs',k1⟩:=eqf_loop (E:=E) (T:=T) (val:=val) hz hz0 hzero hl hs hf s.l.length 0 [] 0 (by omega) rfl
   simp [hl] at k1
   simp [Bd_mk,eqfQ,hl,hfr,pureV]
   rw [Cd_keep]
   simp [k1]
   cases all2 p s.l t.l <;> simp [pureV,ownR,own1,ownV]
 · have hl':¬ ((s.l.length:Int) = t.l.length):=by omega
   rw [all2_ne hl]
   simp [Bd_mk,eqfQ,hl',hfr,pureV,ownR,own1,ownV]
end
def Cfg.same (a b:Cfg):Bool:=a.epoch == b.epoch && a.next == b.next && a.hosts == b.hosts && a.ways == b.ways && (all2 Pod.eqB a.pods.l b.pods.l && (all2 Svc.eqB a.services.l b.services.l && (all2 Way.eqB a.bound.l b.bound.l && all2 Pol.same a.policies.l b.policies.l)))
end Go.Proofs.YtegfnefobbgkjaaGreat
namespace Go.Proofs.YtegfnefobbgkjaaGreat
def Lg (n:Int) (x:Int):Prop:=0 <= n /\ x < 2 ^ n.toNat /\ (1 <= x -> 2 ^ n.toNat <= 2 * x)
theorem lenT_ok:((List.range 256).all fun i=>decide ((i:Int) < 2 ^ (lenT i).toNat) && (decide (i = 0) || decide ((2:Int) ^ (lenT i).toNat <= 2 * i))) = true:=by decide +kernel
theorem Lg_base {x:Int} (h0:0 <= x) (h1:x < 256):Lg (lenT (IntKind.wrap .u8 x).toNat) x:=by
 have hw:IntKind.wrap .u8 x = x:=by simp [IntKind.wrap,IntKind.bits,IntKind.signed]; omega
 rw [hw]
 have:=List.all_eq_true.1 lenT_ok x.toNat (List.mem_range.2 (by omega))
 simp only [Bool.and_eq_true,Bool.or_eq_true,decide_eq_true_eq] at this
 have hx:((x.toNat:Nat):Int) = x:=by omega
 rw [hx] at this
 exact ⟨(lenT_le _).1,this.1,fun h=>by rcases this.2 with h2 | h2 <;> omega⟩
theorem Lg_shift {n x K:Int} (k:Nat) (hK:K = 2 ^ k) (hK0:0 < K) (hx:K <= x) (h:Lg n (x.fdiv K)):Lg ((k:Int) + n) x:=by
 obtain ⟨h0,h1,h2⟩:=h
 have e:((k:Int) + n).toNat = k + n.toNat:=by omega
 rw [Int.fdiv_eq_ediv_of_nonneg _ (by omega)] at h1 h2
 have hp:(2:Int) ^ (k + n.toNat) = K * 2 ^ n.toNat:=by rw [Int.pow_add,← hK]
 have hd:=Int.mul_ediv_add_emod x K
 have hm:=Int.emod_nonneg x (show K ≠ 0 by omega)
 have hl:=Int.emod_lt_of_pos x hK0
 have hq:1 <= x / K:=by
  have:=(Int.le_ediv_iff_mul_le hK0 (a:=1) (b:=x)).2 (by omega)
  exact this
 refine ⟨by omega,?_,fun _=>?_⟩
 · rw [e,hp]
   have:=(Int.ediv_lt_iff_lt_mul hK0).1 h1
   rw [Int.mul_comm]; exact this
 · rw [e,hp]
   have h3:=Int.mul_le_mul_of_nonneg_left (h2 hq) (Int.le_of_lt hK0)
   have h4:K * (2 * (x / K)) = 2 * (K * (x / K)):=by rw [Int.mul_left_comm]
   omega
theorem len64_ok {x:Int} (h0:0 <= x) (h1:x < 2 ^ 64):Lg (len64 x) x:=by
 have hb:∀ y,0 <= y -> y < 65536 -> Lg ((if y >= 256 then 8 else 0) + lenT (IntKind.wrap .u8 (lenC y)).toNat) y:=by
  intro y a b
  by_cases c:y >= 256
  · rw [if_pos c,lenC,if_pos c]
    have hd:y.fdiv 256 = y / 256:=Int.fdiv_eq_ediv_of_nonneg _ (by omega)
    exact Lg_shift (K:=256) 8 (by decide) (by omega) c (Lg_base (by rw [hd]; omega) (by rw [hd]; omega))
  · rw [if_neg c,lenC,if_neg c,Int.zero_add]
    exact Lg_base a (by omega)
 have ha:∀ y,0 <= y -> y < 4294967296 -> Lg ((if y >= 65536 then 16 else 0) + ((if lenB y >= 256 then 8 else 0) + lenT (IntKind.wrap .u8 (lenC (lenB y))).toNat)) y:=by
  intro y a b
  by_cases c:y >= 65536
  · have hB:lenB y = y.fdiv 65536:=by rw [lenB,if_pos c]
    rw [if_pos c,hB]
    have hd:y.fdiv 65536 = y / 65536:=Int.fdiv_eq_ediv_of_nonneg _ (by omega)
    exact Lg_shift (K:=65536) 16 (by decide) (by omega) c (hb _ (by rw [hd]; omega) (by rw [hd]; omega))
  · have hB:lenB y = y:=by rw [lenB,if_neg c]
    rw [if_neg c,hB,Int.zero_add]
    exact hb _ a (by omega)
 have hz:len64 x = (if x >= 4294967296 then 32 else 0) + ((if lenA x >= 65536 then 16 else 0) + ((if lenB (lenA x) >= 256 then 8 else 0) + lenT (IntKind.wrap .u8 (lenC (lenB (lenA x)))).toNat)):=by
  unfold len64; omega
 rw [hz]
 by_cases c:x >= 4294967296
 · have hA:lenA x = x.fdiv 4294967296:=by rw [lenA,if_pos c]
   rw [if_pos c,hA]
   have hd:x.fdiv 4294967296 = x / 4294967296:=Int.fdiv_eq_ediv_of_nonneg _ (by omega)
   exact Lg_shift (K:=4294967296) 32 (by decide) (by omega) c (ha _ (by rw [hd]; omega) (by rw [hd]; omega))
 · have hA:lenA x = x:=by rw [lenA,if_neg c]
   rw [if_neg c,hA,Int.zero_add]
   exact ha _ h0 (by omega)
theorem polMay_own (p:Pol):polMay p.own = polMay p:=by
 have:(p.rules.l.map Rule.own).all ruleMay = p.rules.l.all ruleMay:=by rw [List.all_map]; rfl
 simp only [polMay,Pol.own,List.length_map,this]
 rfl
theorem Cfg.same_refl (a:Cfg):a.same a = true:=by
 simp [Cfg.same,all2_refl (fun _=>Pod.eqB_iff.2 rfl),all2_refl (fun _=>Svc.eqB_iff.2 rfl),all2_refl (fun _=>Way.eqB_iff.2 rfl),all2_refl Pol.same_refl]
end Go.Proofs.YtegfnefobbgkjaaGreat
namespace Go.Proofs.YtegfnefobbgkjaaGreat
end Go.Proofs.YtegfnefobbgkjaaGreat
