/- Regions whose order is open: what is run in the order of the text is what comes of any order. -/
import Derived.Test.YtmahnnnccohccaaGreatPl
set_option linter.unusedVariables false
set_option linter.unusedSimpArgs false
namespace Go.Proofs.YtmahnnnccohccaaGreat
open Go.RowKit
def Stands (e:Env) (h:Hp):Prop:=∃ B ρ w,∃ t:Array Value,Rel B ρ h w /\ ER ρ w e t
theorem Rel.bs {B:Nat} {ρ:Rh} {h h':Hp} {w:World} (hR:Rel B ρ h w) (hb:h'.bs = h.bs):Rel B ρ h' w:=by
 obtain ⟨bs,l⟩:=h
 obtain ⟨bs',l'⟩:=h'
 simp only at hb
 subst hb
 exact ⟨hR.dom,hR.ln,hR.live,hR.lo,hR.base,hR.inj,hR.mem,hR.xB,hR.gB⟩
section
variable {P:Program} {C:Calls'} {e:Env} {h h':Hp}
theorem Stands.env (hS:Stands e h) (i:Nat):(e.getD i .undef).under h.bs.length = true:=by
 obtain ⟨B,ρ,w,t,hR,hE⟩:=hS
 exact (hE.2 i).under hR.dom
theorem Stands.blk (hS:Stands e h) {b:Nat} {x:Blk} (hb:h.bs[b]? = some x):BU h.bs.length x:=by
 obtain ⟨B,ρ,w,t,hR,hE⟩:=hS
 obtain ⟨hlt,hx⟩:=List.getElem?_eq_some_iff.1 hb
 have hm:=hR.mem b hlt
 rw [hx] at hm
 cases x with
 | iter s p=>simp only [BU]
 | cells cs =>
  simp only [BU]
  cases cs with
  | nil=>simp
  | cons c cs =>
   simp only [BR] at hm
   obtain ⟨arr,el,fz,_,b2,_,b4⟩:=hm
   intro y hy
   obtain ⟨j,hj,rfl⟩:=List.getElem_of_mem hy
   exact (b4 j hj (by omega)).1.under hR.dom
theorem Stands.bs (hS:Stands e h) (hb:h'.bs = h.bs):Stands e h':=by
 obtain ⟨B,ρ,w,t,hR,hE⟩:=hS
 exact ⟨B,ρ,w,t,hR.bs hb,hE⟩
theorem wp_exists {o:Oper} {a:Act} {w:World} {K:Act -> World -> Prop} (hh:o.wp P a w K (fun _ _ _=>False)):∃ a' w',K a' w':=by
 unfold Oper.wp at hh
 generalize (execOp a.eval o).run P w = r at hh
 cases r with
 | ok n w' =>
  cases n <;> simp only [Oper.upon] at hh
  case value=>exact ⟨_,_,hh⟩
  case skip=>exact ⟨_,_,hh⟩
  case defer=>exact ⟨_,_,hh⟩
  case enter f args =>
   obtain ⟨x,w'',fr,hr,_⟩:=hh []
   cases x with
   | returned u=>exact ⟨_,_,hr⟩
   | panicked c=>exact hr.elim
   | outgrown=>obtain ⟨_,_,hf⟩:=hr; exact hf.elim
  case row row args =>
   obtain ⟨v,w'',hr,_⟩:=hh (Frame.ofRow P row args .normal) []
   exact ⟨_,_,hr⟩
 | halt x w'=>cases x <;> simp only [Oper.upon] at hh
theorem Stands.step (hS:Stands e h) (hC:CallsOk P C) {o:Oper} {r:R} (hc:compR P o = some r) {x:V} (hm:opM C r e h = some (x,h')) (d:Option Nat):Stands (setD e d x) h':=by
 obtain ⟨B,ρ,w,t,hR,hE⟩:=hS
 have:=op_wp (a:=⟨t,[]⟩) (K:=fun _ w'=>∃ v ρ',Rel B ρ' h' w' /\ Goes B ρ w ρ' w' /\ VRx h' ρ' w' x v) (Q:=fun _ _ _=>False) hC hR hE hc hm fun v ρ' w' k1 k2 k3=>⟨v,ρ',k1,k2,k3⟩
 obtain ⟨_,w',v,ρ',k1,k2,k3⟩:=wp_exists this
 exact ⟨B,ρ',w',_,k1,put_set (a:=⟨t,[]⟩) (hE.ext k2.ext) k3 d⟩
theorem Stands.skip (hS:Stands e h) (d:Option Nat):Stands (setD e d (.tup [])) h:=by
 obtain ⟨B,ρ,w,t,hR,hE⟩:=hS
 exact ⟨B,ρ,w,_,hR,skip_er (a:=⟨t,[]⟩) hE d⟩
end
structure TrOk (h h':Hp) (t:Tr):Prop where
 lo:t.lo = h.bs.length
 hi:t.hi = h'.bs.length
 le:h.bs.length <= h'.bs.length
 big:t.big = true -> t.call = true
 call:t.call = true -> t.nd = []
 wr:∀ b ∈ t.wr,b ∈ t.nd
 bl:t.big = true -> t.bl <= t.lo
 chg:∀ b,h'.bs[b]? ≠ h.bs[b]? -> b ∈ t.wr \/ (t.lo <= b /\ b < t.hi) \/ (t.big = true /\ t.bl <= b /\ b < t.lo)
def Tr.looks (u:Tr) (b:Nat):Prop:=b ∈ u.nd \/ (u.call = true /\ b < u.lo)
theorem TrOk.no {h h':Hp}:TrOk h h (noTr h):=⟨rfl,rfl,Nat.le_refl _,by simp [noTr],by simp [noTr],by simp [noTr],by simp [noTr],fun b hb=>absurd rfl hb⟩
theorem spares_no {h h':Hp} {t u:Tr} (ht:TrOk h h' t) (hu:u.call = true -> u.nd = []) (hub:u.big = true -> u.call = true) (hs:t.spares u = true) {b:Nat} (hc:h'.bs[b]? ≠ h.bs[b]?) (hl:u.looks b):False:=by
 have hch:=ht.chg b hc
 unfold Tr.spares at hs
 split at hs
 · simp only [Bool.or_eq_true] at hs
   rcases hs with ((h1 | h1) | h1) | h1
   · simp [Tr.calm] at h1
     obtain ⟨⟨a2,a4⟩,a5⟩:=h1
     rcases hch with q | q | q
     · rw [a4] at q; cases q
     · omega
     · rw [a2] at q; cases q.1
   · simp [Tr.still] at h1
     obtain ⟨⟨⟨⟨a1,a2⟩,a3⟩,a4⟩,a5⟩:=h1
     rcases hl with q | q
     · rw [a3] at q; cases q
     · rw [a1] at q; cases q.1
   · simp at h1
     obtain ⟨⟨a1,a2⟩,a3⟩:=h1
     rcases hl with p | p
     · have hlt:=a3 b p
       rcases hch with q | q | q
       · have:=ht.wr b q
         rw [ht.call (ht.big a1)] at this
         cases this
       · have:=ht.bl a1
         omega
       · omega
     · rw [a2] at p; cases p.1
   · simp at h1
     obtain ⟨⟨⟨a1,a2⟩,a3⟩,a4⟩:=h1
     rcases hch with q | q | q
     · rw [a3] at q; cases q
     · rcases hl with p | p
       · rw [hu a2] at p; cases p
       · omega
     · rw [a1] at q; cases q.1
 · rename_i hb
   simp at hb
   split at hs
   · rename_i hcall
     simp at hs
     rcases hch with q | q | q
     · rw [hs.1] at q; cases q
     · rcases hl with p | p
       · rw [hu hcall] at p; cases p
       · omega
     · rw [hb.1] at q; cases q.1
   · rename_i hcall
     rcases hl with p | p
     · simp at hs
       have:=hs b p
       rcases hch with q | q | q
       · exact this.1 q
       · rcases this.2 with q2 | q2 <;> omega
       · rw [hb.1] at q; cases q.1
     · exact hcall p.1
theorem write_need (e:Env) (r:R):∀ b ∈ writeR e r,b ∈ needR e r:=by
 cases r <;> simp only [writeR,needR] <;> intro b hb <;> simp_all
theorem opD_view {P:Program} {C:Calls'} (hC:CallsOk P C) {r:R} {e:Env} {h:Hp} {v:V} {h':Hp} {t:Tr} (hd:opD C r e h = some (v,h',t)) :
 TrOk h h' t /\ (∃ h2,opM C r e ⟨h.bs,if t.call = true then h.bs.length else h.low⟩ = some (v,h2) /\ h2.bs = h'.bs) ∧
 ∀ hV:Hp,hV.bs.length = h.bs.length -> hV.low = h.bs.length -> (∀ b,b < h.bs.length -> (t.call = true \/ b ∈ t.nd) -> hV.bs[b]? = h.bs[b]?) →
  ∃ h1,opM C r e hV = some (v,h1) /\ h1.bs.length = h'.bs.length /\ (∀ b,(h.bs.length <= b \/ t.call = true \/ b ∈ t.nd) -> h1.bs[b]? = h'.bs[b]?) /\ (∀ b,b < h.bs.length -> ¬ (t.call = true \/ b ∈ t.nd) -> h'.bs[b]? = h.bs[b]?):=by
 by_cases hcall:∃ f args,r = .call f args
 · obtain ⟨f,args,rfl⟩:=hcall
   simp only [opD] at hd
   split at hd
   · rename_i v1 h1 hm
     have hm2:opM C (.call f args) e ⟨h.bs,h.bs.length⟩ = some (v1,h1):=hm
     have hl:=opM_low hC hm2
     have key:h'.bs = h1.bs -> t.call = true -> v = v1 ->  (∃ h2,opM C (.call f args) e ⟨h.bs,if t.call = true then h.bs.length else h.low⟩ = some (v,h2) /\ h2.bs = h'.bs) /\ ∀ hV:Hp,hV.bs.length = h.bs.length -> hV.low = h.bs.length -> (∀ b,b < h.bs.length -> (t.call = true \/ b ∈ t.nd) -> hV.bs[b]? = h.bs[b]?) →
      ∃ h1,opM C (.call f args) e hV = some (v,h1) /\ h1.bs.length = h'.bs.length /\ (∀ b,(h.bs.length <= b \/ t.call = true \/ b ∈ t.nd) -> h1.bs[b]? = h'.bs[b]?) /\ (∀ b,b < h.bs.length -> ¬ (t.call = true \/ b ∈ t.nd) -> h'.bs[b]? = h.bs[b]?):=by
      intro hb hct hv
      subst hv
      refine ⟨⟨h1,by rw [if_pos hct]; exact hm2,hb.symm⟩,?_⟩
      intro hV k1 k2 k3
      have:hV = ⟨h.bs,h.bs.length⟩:=by
       obtain ⟨bs,l⟩:=hV
       simp only at k1 k2 k3
       have:bs = h.bs:=List.ext_getElem? fun b=>by
        rcases Nat.lt_or_ge b h.bs.length with q | q
        · exact k3 b q (.inl hct)
        · rw [List.getElem?_eq_none q,List.getElem?_eq_none (by omega)]
       rw [this,k2]
      subst this
      exact ⟨h1,hm2,by rw [hb],fun b _=>by rw [hb],fun b _ hn=>absurd (.inl hct) hn⟩
     split at hd
     · rename_i hlow
       split at hd
       · rename_i hlen
         cases hd
         have hbs:h.bs = h1.bs:=List.ext_getElem? fun b=>by
          rcases Nat.lt_or_ge b h.bs.length with q | q
          · exact (hl.2.2 b q (by omega)).symm
          · rw [List.getElem?_eq_none q,List.getElem?_eq_none (by omega)]
         exact ⟨⟨rfl,rfl,Nat.le_refl _,by simp,by simp,by simp,by simp,fun b hb=>absurd rfl hb⟩,key hbs rfl rfl⟩
       · cases hd
         refine ⟨⟨rfl,rfl,hl.1,by simp,by simp,by simp,by simp,fun b hb=>?_⟩,key rfl rfl rfl⟩
         right; left
         simp only at hb ⊢
         rcases Nat.lt_or_ge b h.bs.length with q | q
         · exact absurd (hl.2.2 b q (by omega)) hb
         · refine ⟨q,Nat.lt_of_not_le fun q2=>hb ?_⟩
           rw [List.getElem?_eq_none q,List.getElem?_eq_none q2]
     · rename_i hlow
       cases hd
       refine ⟨⟨rfl,rfl,hl.1,by simp,by simp,by simp,fun _=>by simp only; omega,fun b hb=>?_⟩,key rfl rfl rfl⟩
       right
       simp only at hb ⊢
       rcases Nat.lt_or_ge b h.bs.length with q | q
       · exact .inr ⟨trivial,Nat.le_of_not_lt fun q2=>hb (hl.2.2 b q q2),q⟩
       · refine .inl ⟨q,Nat.lt_of_not_le fun q2=>hb ?_⟩
         rw [List.getElem?_eq_none q,List.getElem?_eq_none q2]
   · cases hd
 · have hnc:∀ f args,r ≠ .call f args:=fun f args hh=>hcall ⟨f,args,hh⟩
   have hd':∃ h1,opM C r e h = some (v,h1) /\ h' = h1 /\ t = ⟨false,false,needR e r,writeR e r,h.bs.length,h1.bs.length,0⟩:=by
    cases r <;> first | (exact absurd rfl (hnc _ _)) | skip
    all_goals
     simp only [opD] at hd
     split at hd
     · rename_i v1 h1 hm
       cases hd
       exact ⟨_,hm,rfl,rfl⟩
     · cases hd
   obtain ⟨h1,hm,rfl,rfl⟩:=hd'
   obtain ⟨_,hm0,hL⟩:=opM_local hnc hm rfl (fun _ _=>rfl)
   rw [hm] at hm0
   cases hm0
   refine ⟨⟨rfl,rfl,hL.le,by simp,by simp,write_need e r,by simp,fun b hb=>?_⟩,⟨_,by simpa using hm,rfl⟩,fun hV k1 k2 k3=>?_⟩
   · by_cases hw:b ∈ writeR e r
     · exact .inl hw
     · right; left
       simp only
       rcases Nat.lt_or_ge b h.bs.length with q | q
       · exact absurd (hL.old b q hw).1 hb
       · refine ⟨q,Nat.lt_of_not_le fun q2=>hb ?_⟩
         rw [List.getElem?_eq_none q,List.getElem?_eq_none q2]
   · obtain ⟨hV',m1,L⟩:=opM_local (hV:=hV) hnc hm k1 (fun b hb=>by
      rcases Nat.lt_or_ge b h.bs.length with q | q
      · exact k3 b q (.inr hb)
      · rw [List.getElem?_eq_none q,List.getElem?_eq_none (by omega)])
     refine ⟨hV',m1,L.len,fun b hb=>?_,fun b q hn=>(L.old b q fun hw=>hn (.inr (write_need e r b hw))).1⟩
     rcases hb with hb | hb | hb
     · exact L.new b (.inr hb)
     · cases hb
     · by_cases hw:b ∈ writeR e r
       · exact L.new b (.inl hw)
       · rcases Nat.lt_or_ge b h.bs.length with q | q
         · rw [(L.old b q hw).1,(L.old b q hw).2]; exact k3 b q (.inr hb)
         · exact L.new b (.inr q)
theorem stepD_cases {C:Calls'} {o:RO} {e:Env} {h:Hp} {s:Stp} (hs:stepD C o e h = some s) :
 (opD C o.r e h = some (s.v,s.h',s.t) /\ (o.g = none \/ ∃ j want,o.g = some (j,want) /\ e.getD j .undef = .d (.bool want))) ∨
 (s.v = .tup [] /\ s.h' = h /\ s.t = noTr h /\ ∃ j want,o.g = some (j,want) /\ ((∃ t,e.getD j .undef = .d (.bool t) /\ t ≠ want) \/ e.getD j .undef = .tup [])):=by
 have key:(match opD C o.r e h with | some (v,h',t)=>some (⟨h,v,h',t⟩:Stp) | none=>none) = some s -> opD C o.r e h = some (s.v,s.h',s.t):=by
  intro hy
  split at hy
  · rename_i heq; cases hy; exact heq
  · cases hy
 simp only [stepD] at hs
 split at hs
 · rename_i hg
   exact .inl ⟨key hs,.inl hg⟩
 · rename_i j want hg
   split at hs
   · rename_i t ht
     split at hs
     · rename_i htw
       exact .inl ⟨key hs,.inr ⟨j,want,hg,by rw [ht,htw]⟩⟩
     · rename_i htw
       cases hs
       exact .inr ⟨rfl,rfl,rfl,j,want,hg,.inl ⟨t,ht,htw⟩⟩
   · rename_i ht
     cases hs
     exact .inr ⟨rfl,rfl,rfl,j,want,hg,.inr ht⟩
   · cases hs
theorem stepD_tr {P:Program} {C:Calls'} (hC:CallsOk P C) {o:RO} {e:Env} {h:Hp} {s:Stp} (hs:stepD C o e h = some s):TrOk h s.h' s.t:=by
 rcases stepD_cases hs with ⟨h1,_⟩ | ⟨_,h2,h3,_⟩
 · exact (opD_view hC h1).1
 · rw [h2,h3]; exact TrOk.no (h':=h)
theorem Stands.stepD {P:Program} {C:Calls'} (hC:CallsOk P C) {ops:Array Oper} {oo:Oper} {o:RO} (hc:compO P ops oo = some o) {e:Env} {h:Hp} {s:Stp} (hs:Go.Proofs.YtmahnnnccohccaaGreat.stepD C o e h = some s) (hS:Stands e h):Stands (setD e o.d s.v) s.h':=by
 rcases stepD_cases hs with ⟨h1,_⟩ | ⟨h0,h2,h3,_⟩
 · obtain ⟨_,⟨h2,m1,m2⟩,_⟩:=opD_view hC h1
   exact ((hS.bs (h':=⟨h.bs,if s.t.call = true then h.bs.length else h.low⟩) rfl).step hC (compO_parts hc).1 m1 o.d).bs m2.symm
 · rw [h0,h2]; exact hS.skip o.d
theorem runD_get {C:Calls'}:∀ {os:List RO} {e:Env} {h:Hp} {l:List Stp} {e':Env} {h':Hp},runD C os e h = some (l,e',h') →
 ∃ (E:Nat -> Env) (H:Nat -> Hp),E 0 = e /\ H 0 = h /\ E os.length = e' /\ H os.length = h' /\ l.length = os.length ∧
  ∀ k (hk:k < os.length),∃ s,l[k]? = some s /\ stepD C os[k] (E k) (H k) = some s /\ E (k + 1) = setD (E k) os[k].d s.v /\ H (k + 1) = s.h'
 | [],e,h,l,e',h',hr=>by
  simp only [runD,Option.some.injEq,Prod.mk.injEq] at hr
  obtain ⟨rfl,rfl,rfl⟩:=hr
  exact ⟨fun _=>e,fun _=>h,rfl,rfl,rfl,rfl,rfl,fun k hk=>absurd hk (Nat.not_lt_zero _)⟩
 | o :: os,e,h,l,e',h',hr=>by
  simp only [runD] at hr
  split at hr
  · rename_i s hs
    split at hr
    · rename_i l1 e1 h1 hr1
      cases hr
      obtain ⟨E,H,q1,q2,q3,q4,q5,q6⟩:=runD_get hr1
      refine ⟨fun k=>match k with | 0=>e | k + 1=>E k,fun k=>match k with | 0=>h | k + 1=>H k,rfl,rfl,q3,q4,by simp [q5],fun k hk=>?_⟩
      cases k with
      | zero=>exact ⟨s,rfl,hs,q1,q2⟩
      | succ k =>
       obtain ⟨s',p1,p2,p3,p4⟩:=q6 k (by simpa using hk)
       exact ⟨s',by simpa using p1,by simpa using p2,by simpa using p3,p4⟩
    · cases hr
  · cases hr
theorem cut_step {α:Type} {n i:Nat} {chg:Nat -> Prop} {val:Nat -> α} {cur cur':α} {lst lst':Nat -> Prop} (hi:i < n) (hl:∀ k,lst' k ↔ (lst k \/ k = i)) (hnl:¬ lst i) (hv:∀ k,k < n -> ¬ chg k -> val (k + 1) = val k)
 (inv:∀ j,j <= n -> (∀ k,k < j -> chg k -> lst k) -> (∀ k,j <= k -> k < n -> chg k -> ¬ lst k) -> cur = val j)
 (h1:chg i -> cur' = val (i + 1) /\ ∀ k,i < k -> k < n -> chg k -> ¬ lst k) (h2:¬ chg i -> cur' = cur) :
 ∀ j,j <= n -> (∀ k,k < j -> chg k -> lst' k) -> (∀ k,j <= k -> k < n -> chg k -> ¬ lst' k) -> cur' = val j:=by
 intro j hj ha hb
 by_cases hc:chg i
 · obtain ⟨e1,e2⟩:=h1 hc
   have hij:i < j:=Nat.lt_of_not_le fun hle=>hb i hle hi hc ((hl i).2 (.inr rfl))
   have:∀ d,i + 1 + d <= j -> val (i + 1 + d) = val (i + 1):=by
    intro d
    induction d with
    | zero=>intro _; rfl
    | succ d ih =>
     intro hd
     rw [← ih (by omega)]
     refine hv (i + 1 + d) (by omega) fun hc2=>?_
     rcases (hl _).1 (ha (i + 1 + d) (by omega) hc2) with q | q
     · exact e2 (i + 1 + d) (by omega) (by omega) hc2 q
     · omega
   rw [e1,← this (j - (i + 1)) (by omega)]
   congr 1; omega
 · rw [h2 hc]
   refine inv j hj (fun k hk hck=>?_) fun k hk hkn hck hlk=>hb k hk hkn hck ((hl k).2 (.inl hlk))
   rcases (hl k).1 (ha k hk hck) with q | rfl
   · exact q
   · exact absurd hck hc
end Go.Proofs.YtmahnnnccohccaaGreat
