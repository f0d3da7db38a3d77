/- Regions whose order is open: what is run in the order of the text is what comes of any order. -/
import Derived.Test.YtjkfknafpgfchaaGreatPk
set_option linter.unusedVariables false
set_option linter.unusedSimpArgs false
namespace Go.Proofs.YtjkfknafpgfchaaGreat
section
open Go.RowKit
def Stands (e:Env) (h:Hp):Prop:=∃ B ρ w,∃ t:Array Value,Rel B ρ h w /\ ER ρ w e t
theorem Rel.bs {B:Nat} {ρ:Rh} {h h':Hp} {w:World} (hR:Rel B ρ h w) (hb:h'.bs = h.bs):Rel B ρ h' w:=by
 obtain ⟨bs,l⟩:=h;obtain ⟨bs',l'⟩:=h';simp only at hb;subst hb;exact ⟨hR.dom,hR.ln,hR.live,hR.lo,hR.base,hR.inj,hR.mem,hR.xB,hR.gB⟩
section
variable {P:Program} {C:Calls'} {e:Env} {h h':Hp}
theorem Stands.env (hS:Stands e h) (i:Nat):(e.getD i .undef).under h.bs.length = true:=by
 obtain ⟨B,ρ,w,t,hR,hE⟩:=hS;exact (hE.2 i).under hR.dom
theorem Stands.blk (hS:Stands e h) {b:Nat} {x:Blk} (hb:h.bs[b]? = some x):BU h.bs.length x:=by
 obtain ⟨B,ρ,w,t,hR,hE⟩:=hS;obtain ⟨hlt,hx⟩:=List.getElem?_eq_some_iff.1 hb;have hm:=hR.mem b hlt;rw [hx] at hm;cases x with
 | iter s p=>simp only [BU]
 | cells cs =>
  simp only [BU];cases cs with
  | nil=>simp
  | cons c cs =>
   simp only [BR] at hm;obtain ⟨arr,el,fz,_,b2,_,b4⟩:=hm;intro y hy;obtain ⟨j,hj,rfl⟩:=List.getElem_of_mem hy;exact (b4 j hj (by omega)).1.under hR.dom
theorem Stands.bs (hS:Stands e h) (hb:h'.bs = h.bs):Stands e h':=by
 obtain ⟨B,ρ,w,t,hR,hE⟩:=hS;exact ⟨B,ρ,w,t,hR.bs hb,hE⟩
theorem EM {o:Oper} {a:Act} {w:World} {K:Act -> World -> Prop} (hh:o.wp P a w K (fun _ _ _=>False)):∃ a' w',K a' w':=by
 unfold Oper.wp at hh;generalize (execOp a.eval o).run P w = r at hh;cases r with
 | ok n w' =>
  cases n <;> simp only [Oper.upon] at hh
  case value=>exact ⟨_,_,hh⟩
  case skip=>exact ⟨_,_,hh⟩
  case defer=>exact ⟨_,_,hh⟩
  case enter f args =>
   obtain ⟨x,w'',fr,hr,_⟩:=hh [];cases x with
   | returned u=>exact ⟨_,_,hr⟩
   | panicked c=>exact hr.elim
   | outgrown=>obtain ⟨_,_,hf⟩:=hr; exact hf.elim
  case row row args =>
   obtain ⟨v,w'',hr,_⟩:=hh (Frame.ofRow P row args .normal) [];exact ⟨_,_,hr⟩
 | halt x w'=>cases x <;> simp only [Oper.upon] at hh
theorem Stands.step (hS:Stands e h) (hC:aL P C) {o:Oper} {r:R} (hc:rU P o = some r) {x:V} (hm:opM C r e h = some (x,h')) (d:Option Nat):Stands (fE e d x) h':=by
 obtain ⟨B,ρ,w,t,hR,hE⟩:=hS;have:=HY (a:=⟨t,[]⟩) (K:=fun _ w'=>∃ v ρ',Rel B ρ' h' w' /\ Goes B ρ w ρ' w' /\ VRx h' ρ' w' x v) (Q:=fun _ _ _=>False) hC hR hE hc hm fun v ρ' w' k1 k2 k3=>⟨v,ρ',k1,k2,k3⟩;obtain ⟨_,w',v,ρ',k1,k2,k3⟩:=EM this;exact ⟨B,ρ',w',_,k1,q9 (a:=⟨t,[]⟩) (hE.ext k2.ext) k3 d⟩
theorem Stands.skip (hS:Stands e h) (d:Option Nat):Stands (fE e d (.tup [])) h:=by
 obtain ⟨B,ρ,w,t,hR,hE⟩:=hS;exact ⟨B,ρ,w,_,hR,vX (a:=⟨t,[]⟩) hE d⟩
end
theorem Je {a b:V} (h:gF a b = true):a = b:=by
 unfold gF at h;split at h
 · simp only [Bool.and_eq_true,beq_iff_eq] at h; rw [h.1,h.2]
 · rfl
 · cases h
theorem uG:∀ {a b:List V},bS a b = true -> a = b
 | [],[],_=>rfl
 | v :: vs,w :: ws,h=>by
  simp only [bS,Bool.and_eq_true] at h;rw [Je h.1,uG h.2]
 | [],_ :: _,h=>by simp [bS] at h
 | _ :: _,[],h=>by simp [bS] at h
theorem Jd {a b:Option Blk} (h:Jc a b = true):a = b:=by
 unfold Jc at h;split at h
 · rw [uG h]
 · cases h
theorem KP {bs bs':List Blk} {b:Nat} (h:b ∈ lg bs bs'):bs'[b]? = bs[b]?:=by
 simp only [lg,List.mem_filter] at h;exact (Jd h.2).symm
structure TrOk (h h':Hp) (t:Tr):Prop where
 lo:t.lo = h.bs.length
 hi:t.hi = h'.bs.length
 le:h.bs.length <= h'.bs.length
 big:t.big = true -> t.call = true
 call:t.call = true -> t.nd = []
 wr:∀ b ∈ t.wr,b ∈ t.nd
 bl:t.big = true -> t.bl.n <= t.lo
 kp:t.big = true -> ∀ b ∈ t.bl.kp,¬ t.lo <= b
 chg:∀ b,h'.bs[b]? ≠ h.bs[b]? -> b ∈ t.wr \/ (t.lo <= b /\ b < t.hi) \/ (t.big = true /\ t.bl.n <= b /\ b < t.lo /\ b ∉ t.bl.kp)
def Tr.looks (u:Tr) (b:Nat):Prop:=b ∈ u.nd \/ (u.call = true /\ b < u.lo)
theorem TrOk.no {h h':Hp}:TrOk h h (aV h):=⟨rfl,rfl,Nat.le_refl _,by simp [aV],by simp [aV],by simp [aV],by simp [aV],by simp [aV],fun b hb=>absurd rfl hb⟩
theorem Ew {h h':Hp} {t u:Tr} (ht:TrOk h h' t) (hu:u.call = true -> u.nd = []) (hub:u.big = true -> u.call = true) (hs:t.spares u = true) {b:Nat} (hc:h'.bs[b]? ≠ h.bs[b]?) (hl:u.looks b):False:=by
 have hch:=ht.chg b hc;unfold Tr.spares at hs;split at hs
 · simp only [Bool.or_eq_true] at hs;rcases hs with ((h1 | h1) | h1) | h1
   · simp [Tr.calm] at h1;obtain ⟨⟨a2,a4⟩,a5⟩:=h1;rcases hch with q | q | q
     · rw [a4] at q; cases q
     · omega
     · rw [a2] at q; cases q.1
   · simp [Tr.still] at h1;obtain ⟨⟨⟨⟨a1,a2⟩,a3⟩,a4⟩,a5⟩:=h1;rcases hl with q | q
     · rw [a3] at q; cases q
     · rw [a1] at q; cases q.1
   · simp at h1;obtain ⟨⟨a1,a2⟩,a3⟩:=h1;rcases hl with p | p
     · rcases hch with q | q | q
       · have:=ht.wr b q;rw [ht.call (ht.big a1)] at this;cases this
       · have:=ht.bl a1;rcases a3 b p with hlt | hk
         · omega
         · exact (ht.kp a1 b hk q.1).elim
       · rcases a3 b p with hlt | hk
         · omega
         · exact q.2.2.2 hk
     · rw [a2] at p; cases p.1
   · simp at h1;obtain ⟨⟨⟨a1,a2⟩,a3⟩,a4⟩:=h1;rcases hch with q | q | q
     · rw [a3] at q; cases q
     · rcases hl with p | p
       · rw [hu a2] at p; cases p
       · omega
     · rw [a1] at q; cases q.1
 · rename_i hb;simp at hb;split at hs
   · rename_i hcall;simp at hs;rcases hch with q | q | q
     · rw [hs.1] at q; cases q
     · rcases hl with p | p
       · rw [hu hcall] at p; cases p
       · omega
     · rw [hb.1] at q; cases q.1
   · rename_i hcall;rcases hl with p | p
     · simp at hs;have:=hs b p;rcases hch with q | q | q
       · exact this.1 q
       · rcases this.2 with q2 | q2 <;> omega
       · rw [hb.1] at q; cases q.1
     · exact hcall p.1
theorem tK (e:Env) (r:R):∀ b ∈ dm e r,b ∈ eU e r:=by
 cases r <;> simp only [dm,eU] <;> intro b hb <;> simp_all
theorem sP {P:Program} {C:Calls'} (hC:aL P C) {r:R} {e:Env} {h:Hp} {v:V} {h':Hp} {t:Tr} (hd:opD C r e h = some (v,h',t)) :
 TrOk h h' t /\ (∃ h2,opM C r e ⟨h.bs,if t.call = true then h.bs.length else h.low⟩ = some (v,h2) /\ h2.bs = h'.bs) ∧
 ∀ hV:Hp,hV.bs.length = h.bs.length -> hV.low = h.bs.length -> (∀ b,b < h.bs.length -> (t.call = true \/ b ∈ t.nd) -> hV.bs[b]? = h.bs[b]?) →
  ∃ h1,opM C r e hV = some (v,h1) /\ h1.bs.length = h'.bs.length /\ (∀ b,(h.bs.length <= b \/ t.call = true \/ b ∈ t.nd) -> h1.bs[b]? = h'.bs[b]?) /\ (∀ b,b < h.bs.length -> ¬ (t.call = true \/ b ∈ t.nd) -> h'.bs[b]? = h.bs[b]?):=by
 by_cases hcall:∃ f args,r = .call f args
 · obtain ⟨f,args,rfl⟩:=hcall;simp only [opD] at hd;split at hd
   · rename_i v1 h1 hm;have hm2:opM C (.call f args) e ⟨h.bs,h.bs.length⟩ = some (v1,h1):=hm;have hl:=qY hC hm2;have key:h'.bs = h1.bs -> t.call = true -> v = v1 ->  (∃ h2,opM C (.call f args) e ⟨h.bs,if t.call = true then h.bs.length else h.low⟩ = some (v,h2) /\ h2.bs = h'.bs) /\ ∀ hV:Hp,hV.bs.length = h.bs.length -> hV.low = h.bs.length -> (∀ b,b < h.bs.length -> (t.call = true \/ b ∈ t.nd) -> hV.bs[b]? = h.bs[b]?) →
      ∃ h1,opM C (.call f args) e hV = some (v,h1) /\ h1.bs.length = h'.bs.length /\ (∀ b,(h.bs.length <= b \/ t.call = true \/ b ∈ t.nd) -> h1.bs[b]? = h'.bs[b]?) /\ (∀ b,b < h.bs.length -> ¬ (t.call = true \/ b ∈ t.nd) -> h'.bs[b]? = h.bs[b]?):=by
      intro hb hct hv;subst hv;refine ⟨⟨h1,by rw [if_pos hct]; exact hm2,hb.symm⟩,?_⟩;intro hV k1 k2 k3;have:hV = ⟨h.bs,h.bs.length⟩:=by
       obtain ⟨bs,l⟩:=hV;simp only at k1 k2 k3;have:bs = h.bs:=List.ext_getElem? fun b=>by
        rcases Nat.lt_or_ge b h.bs.length with q | q
        · exact k3 b q (.inl hct)
        · rw [List.getElem?_eq_none q,List.getElem?_eq_none (by omega)]
       rw [this,k2]
      subst this;exact ⟨h1,hm2,by rw [hb],fun b _=>by rw [hb],fun b _ hn=>absurd (.inl hct) hn⟩
     split at hd
     · rename_i hlow;split at hd
       · rename_i hlen;cases hd;have hbs:h.bs = h1.bs:=List.ext_getElem? fun b=>by
          rcases Nat.lt_or_ge b h.bs.length with q | q
          · exact (hl.2.2 b q (by omega)).symm
          · rw [List.getElem?_eq_none q,List.getElem?_eq_none (by omega)]
         exact ⟨⟨rfl,rfl,Nat.le_refl _,by simp,by simp,by simp,by simp,by simp,fun b hb=>absurd rfl hb⟩,key hbs rfl rfl⟩
       · cases hd;refine ⟨⟨rfl,rfl,hl.1,by simp,by simp,by simp,by simp,by simp,fun b hb=>?_⟩,key rfl rfl rfl⟩;right; left;simp only at hb ⊢;rcases Nat.lt_or_ge b h.bs.length with q | q
         · exact absurd (hl.2.2 b q (by omega)) hb
         · refine ⟨q,Nat.lt_of_not_le fun q2=>hb ?_⟩;rw [List.getElem?_eq_none q,List.getElem?_eq_none q2]
     · rename_i hlow;cases hd;refine ⟨⟨rfl,rfl,hl.1,by simp,by simp,by simp,fun _=>by simp only; omega,fun _ b hk hle=>?_,fun b hb=>?_⟩,key rfl rfl rfl⟩
       · simp only [lg,List.mem_filter,List.mem_range] at hk hle;omega
       right;simp only at hb ⊢;rcases Nat.lt_or_ge b h.bs.length with q | q
       · exact .inr ⟨trivial,Nat.le_of_not_lt fun q2=>hb (hl.2.2 b q q2),q,fun hk=>hb (KP hk)⟩
       · refine .inl ⟨q,Nat.lt_of_not_le fun q2=>hb ?_⟩;rw [List.getElem?_eq_none q,List.getElem?_eq_none q2]
   · cases hd
 · have hnc:∀ f args,r ≠ .call f args:=fun f args hh=>hcall ⟨f,args,hh⟩;have hd':∃ h1,opM C r e h = some (v,h1) /\ h' = h1 /\ t = ⟨false,false,eU e r,dm e r,h.bs.length,h1.bs.length,0⟩:=by
    cases r <;> first | (exact absurd rfl (hnc _ _)) | skip
    all_goals
     simp only [opD] at hd;split at hd
     · rename_i v1 h1 hm;cases hd;exact ⟨_,hm,rfl,rfl⟩
     · cases hd
   obtain ⟨h1,hm,rfl,rfl⟩:=hd';obtain ⟨_,hm0,hL⟩:=uC hnc hm rfl (fun _ _=>rfl);rw [hm] at hm0;cases hm0;refine ⟨⟨rfl,rfl,hL.le,by simp,by simp,tK e r,by simp,by simp,fun b hb=>?_⟩,⟨_,by simpa using hm,rfl⟩,fun hV k1 k2 k3=>?_⟩
   · by_cases hw:b ∈ dm e r
     · exact .inl hw
     · right; left;simp only;rcases Nat.lt_or_ge b h.bs.length with q | q
       · exact absurd (hL.old b q hw).1 hb
       · refine ⟨q,Nat.lt_of_not_le fun q2=>hb ?_⟩;rw [List.getElem?_eq_none q,List.getElem?_eq_none q2]
   · obtain ⟨hV',m1,L⟩:=uC (hV:=hV) hnc hm k1 (fun b hb=>by
      rcases Nat.lt_or_ge b h.bs.length with q | q
      · exact k3 b q (.inr hb)
      · rw [List.getElem?_eq_none q,List.getElem?_eq_none (by omega)])
     refine ⟨hV',m1,L.len,fun b hb=>?_,fun b q hn=>(L.old b q fun hw=>hn (.inr (tK e r b hw))).1⟩;rcases hb with hb | hb | hb
     · exact L.new b (.inr hb)
     · cases hb
     · by_cases hw:b ∈ dm e r
       · exact L.new b (.inl hw)
       · rcases Nat.lt_or_ge b h.bs.length with q | q
         · rw [(L.old b q hw).1,(L.old b q hw).2]; exact k3 b q (.inr hb)
         · exact L.new b (.inr q)
theorem lJ {C:Calls'} {o:RO} {e:Env} {h:Hp} {s:Stp} (hs:stepD C o e h = some s) :
 (opD C o.r e h = some (s.v,s.h',s.t) /\ (o.g = none \/ ∃ j want,o.g = some (j,want) /\ e.getD j .undef = .d (.bool want))) ∨
 (s.v = .tup [] /\ s.h' = h /\ s.t = aV h /\ ∃ j want,o.g = some (j,want) /\ ((∃ t,e.getD j .undef = .d (.bool t) /\ t ≠ want) \/ e.getD j .undef = .tup [])):=by
 have key:(match opD C o.r e h with | some (v,h',t)=>some (⟨h,v,h',t⟩:Stp) | none=>none) = some s -> opD C o.r e h = some (s.v,s.h',s.t):=by
  intro hy;split at hy
  · rename_i heq; cases hy; exact heq
  · cases hy
 simp only [stepD] at hs;split at hs
 · rename_i hg;exact .inl ⟨key hs,.inl hg⟩
 · rename_i j want hg;split at hs
   · rename_i t ht;split at hs
     · rename_i htw;exact .inl ⟨key hs,.inr ⟨j,want,hg,by rw [ht,htw]⟩⟩
     · rename_i htw;cases hs;exact .inr ⟨rfl,rfl,rfl,j,want,hg,.inl ⟨t,ht,htw⟩⟩
   · rename_i ht;cases hs;exact .inr ⟨rfl,rfl,rfl,j,want,hg,.inr ht⟩
   · cases hs
theorem Jl {P:Program} {C:Calls'} (hC:aL P C) {o:RO} {e:Env} {h:Hp} {s:Stp} (hs:stepD C o e h = some s):TrOk h s.h' s.t:=by
 rcases lJ hs with ⟨h1,_⟩ | ⟨_,h2,h3,_⟩
 · exact (sP hC h1).1
 · rw [h2,h3]; exact TrOk.no (h':=h)
theorem Stands.stepD {P:Program} {C:Calls'} (hC:aL P C) {ops:Array Oper} {oo:Oper} {o:RO} (hc:qw P ops oo = some o) {e:Env} {h:Hp} {s:Stp} (hs:Go.Proofs.YtjkfknafpgfchaaGreat.stepD C o e h = some s) (hS:Stands e h):Stands (fE e o.d s.v) s.h':=by
 rcases lJ hs with ⟨h1,_⟩ | ⟨h0,h2,h3,_⟩
 · obtain ⟨_,⟨h2,m1,m2⟩,_⟩:=sP hC h1;exact ((hS.bs (h':=⟨h.bs,if s.t.call = true then h.bs.length else h.low⟩) rfl).step hC (kU hc).1 m1 o.d).bs m2.symm
 · rw [h0,h2]; exact hS.skip o.d
theorem yC {C:Calls'}:∀ {os:List RO} {e:Env} {h:Hp} {l:List Stp} {e':Env} {h':Hp},kC C os e h = some (l,e',h') →
 ∃ (E:Nat -> Env) (H:Nat -> Hp),E 0 = e /\ H 0 = h /\ E os.length = e' /\ H os.length = h' /\ l.length = os.length ∧
  ∀ k (hk:k < os.length),∃ s,l[k]? = some s /\ stepD C os[k] (E k) (H k) = some s /\ E (k + 1) = fE (E k) os[k].d s.v /\ H (k + 1) = s.h'
 | [],e,h,l,e',h',hr=>by
  simp only [kC,Option.some.injEq,Prod.mk.injEq] at hr;obtain ⟨rfl,rfl,rfl⟩:=hr;exact ⟨fun _=>e,fun _=>h,rfl,rfl,rfl,rfl,rfl,fun k hk=>absurd hk (Nat.not_lt_zero _)⟩
 | o :: os,e,h,l,e',h',hr=>by
  simp only [kC] at hr;split at hr
  · rename_i s hs;split at hr
    · rename_i l1 e1 h1 hr1;cases hr;obtain ⟨E,H,q1,q2,q3,q4,q5,q6⟩:=yC hr1;refine ⟨fun k=>match k with | 0=>e | k + 1=>E k,fun k=>match k with | 0=>h | k + 1=>H k,rfl,rfl,q3,q4,by simp [q5],fun k hk=>?_⟩;cases k with
      | zero=>exact ⟨s,rfl,hs,q1,q2⟩
      | succ k =>
       obtain ⟨s',p1,p2,p3,p4⟩:=q6 k (by simpa using hk);exact ⟨s',by simpa using p1,by simpa using p2,by simpa using p3,p4⟩
    · cases hr
  · cases hr
theorem wW {α:Type} {n i:Nat} {chg:Nat -> Prop} {val:Nat -> α} {cur cur':α} {lst lst':Nat -> Prop} (hi:i < n) (hl:∀ k,lst' k ↔ (lst k \/ k = i)) (hnl:¬ lst i) (hv:∀ k,k < n -> ¬ chg k -> val (k + 1) = val k)
 (inv:∀ j,j <= n -> (∀ k,k < j -> chg k -> lst k) -> (∀ k,j <= k -> k < n -> chg k -> ¬ lst k) -> cur = val j)
 (h1:chg i -> cur' = val (i + 1) /\ ∀ k,i < k -> k < n -> chg k -> ¬ lst k) (h2:¬ chg i -> cur' = cur) :
 ∀ j,j <= n -> (∀ k,k < j -> chg k -> lst' k) -> (∀ k,j <= k -> k < n -> chg k -> ¬ lst' k) -> cur' = val j:=by
 intro j hj ha hb;by_cases hc:chg i
 · obtain ⟨e1,e2⟩:=h1 hc;have hij:i < j:=Nat.lt_of_not_le fun hle=>hb i hle hi hc ((hl i).2 (.inr rfl));have:∀ d,i + 1 + d <= j -> val (i + 1 + d) = val (i + 1):=by
    intro d
    induction d with
    | zero=>intro _; rfl
    | succ d ih =>
     intro hd;rw [← ih (by omega)];refine hv (i + 1 + d) (by omega) fun hc2=>?_;rcases (hl _).1 (ha (i + 1 + d) (by omega) hc2) with q | q
     · exact e2 (i + 1 + d) (by omega) (by omega) hc2 q
     · omega
   rw [e1,← this (j - (i + 1)) (by omega)]
   congr 1; omega
 · rw [h2 hc];refine inv j hj (fun k hk hck=>?_) fun k hk hkn hck hlk=>hb k hk hkn hck ((hl k).2 (.inl hlk));rcases (hl k).1 (ha k hk hck) with q | rfl
   · exact q
   · exact absurd hck hc
end
section
open Go.RowKit
def oM (acc:List (List Nat)) (o:Oper):List Nat:=ded ((o.after.toList.filter (Region.binds .any ·)).flatMap fun e=>e.on :: acc.getD e.on [])
theorem KU {l:List Nat} {x:Nat}:x ∈ ded l ↔ x ∈ l:=by
 induction l with
 | nil=>simp [ded]
 | cons y l ih =>
  have:ded (y :: l) = if (ded l).contains y then ded l else y :: ded l:=rfl
  rw [this];split
  · rename_i h;rw [ih,List.mem_cons];constructor
    · exact .inr
    · rintro (rfl | h1)
      · exact ih.1 (by simpa using h)
      · exact h1
  · simp [ih]
theorem nC:∀ (l:List Oper) (acc:List (List Nat)),∃ more,l.foldl (fun acc o=>acc ++ [oM acc o]) acc = acc ++ more /\ more.length = l.length /\ ∀ i (hi:i < l.length),more[i]? = some (oM (acc ++ more.take i) l[i])
 | [],acc=>⟨[],by simp,rfl,fun i hi=>absurd hi (Nat.not_lt_zero _)⟩
 | o :: l,acc=>by
  obtain ⟨more,h1,h2,h3⟩:=nC l (acc ++ [oM acc o]);refine ⟨oM acc o :: more,by simp only [List.foldl_cons,h1]; simp,by simp [h2],fun i hi=>?_⟩;cases i with
  | zero=>simp
  | succ i =>
   have:=h3 i (by simpa using hi);simpa [List.append_assoc] using this
section
variable {ops:Array Oper}
theorem H8 (hord:∀ i o,ops[i]? = some o -> ∀ e ∈ o.after,Region.binds .any e = true -> e.on < i) {i:Nat} {o:Oper} (hi:ops[i]? = some o):(bZ ops).getD i [] = oM (bZ ops) o:=by
 obtain ⟨more,h1,h2,h3⟩:=nC ops.toList [];have hp:bZ ops = more:=by simpa [bZ,oM] using h1
 obtain ⟨hlt,hget⟩:=Array.getElem?_eq_some_iff.1 hi;have h4:=h3 i (by simpa using hlt);have h5:ops.toList[i]'(by simpa using hlt) = o:=by simpa using hget
 rw [h5] at h4;rw [hp];rw [List.getD_eq_getElem?_getD,h4];simp only [List.nil_append,Option.getD_some,oM];have:∀ l:List _,(∀ e ∈ l,Region.binds .any e = true -> e.on < i) -> (l.filter (Region.binds .any ·)).flatMap (fun e=>e.on :: (more.take i).getD e.on []) = (l.filter (Region.binds .any ·)).flatMap fun e=>e.on :: more.getD e.on []:=by
  intro l hl
  induction l with
  | nil=>rfl
  | cons x xs ih =>
   have ih:=ih fun e he=>hl e (List.mem_cons_of_mem _ he);by_cases hb:Region.binds .any x = true
   · have hx:=hl x (by simp) hb;simp only [List.filter_cons,hb,if_true,List.flatMap_cons,ih]
     congr 2
     simp [List.getD_eq_getElem?_getD,List.getElem?_take,hx]
   · simp only [List.filter_cons,hb]; exact ih
 exact congrArg ded (this _ fun e he=>hord i o hi e (by simpa using he))
theorem pX (hord:∀ i o,ops[i]? = some o -> ∀ e ∈ o.after,Region.binds .any e = true -> e.on < i) {i:Nat} {o:Oper} (hi:ops[i]? = some o) {j:Nat} :
 j ∈ (bZ ops).getD i [] ↔ ∃ e ∈ o.after,Region.binds .any e = true /\ (j = e.on \/ j ∈ (bZ ops).getD e.on []):=by
 rw [H8 hord hi,oM,KU,List.mem_flatMap];constructor
 · rintro ⟨e,he,hj⟩;rw [List.mem_filter] at he;exact ⟨e,by simpa using he.1,he.2,by simpa using hj⟩
 · rintro ⟨e,he,hb,hj⟩;exact ⟨e,List.mem_filter.2 ⟨by simpa using he,hb⟩,by simpa using hj⟩
theorem ym (hord:∀ i o,ops[i]? = some o -> ∀ e ∈ o.after,Region.binds .any e = true -> e.on < i):∀ (n i:Nat),i < n -> ∀ j ∈ (bZ ops).getD i [],j < i
 | 0,i,hi,_,_=>absurd hi (Nat.not_lt_zero _)
 | n + 1,i,hi,j,hj=>by
  cases ho:ops[i]? with
  | none =>
   exfalso;obtain ⟨more,h1,h2,h3⟩:=nC ops.toList [];have hp:bZ ops = more:=by simpa [bZ,oM] using h1
   have:ops.size <= i:=by simpa using ho
   rw [hp,List.getD_eq_getElem?_getD,List.getElem?_eq_none (by rw [h2]; simpa using this)] at hj;simp at hj
  | some o =>
   obtain ⟨e,he,hb,hj⟩:=(pX hord ho).1 hj;have:=hord i o ho e he hb;rcases hj with rfl | hj
   · exact this
   · exact Nat.lt_trans (ym hord n e.on (by omega) j hj) this
end
structure Drw (P:Program) (C:Calls') (ops:Array Oper) (os:List RO) (pr:Nat -> Nat -> Prop) (E:Nat -> Env) (H:Nat -> Hp) (S:Nat -> Stp):Prop where
 len:os.length = ops.size
 comp:∀ k (hk:k < os.length) o,ops[k]? = some o -> qw P ops o = some os[k]
 step:∀ k (hk:k < os.length),stepD C os[k] (E k) (H k) = some (S k) /\ E (k + 1) = fE (E k) os[k].d (S k).v /\ H (k + 1) = (S k).h'
 st:∀ k,k <= os.length -> Stands (E k) (H k)
 plt:∀ k j,pr k j -> j < k
 pto:∀ k o,ops[k]? = some o -> ∀ j,pr k j -> ∃ e ∈ o.after,Region.binds .any e = true /\ (j = e.on \/ pr e.on j)
 pin:∀ k o,ops[k]? = some o -> ∀ e ∈ o.after,Region.binds .any e = true -> pr k e.on
 apart:∀ i j,i < os.length -> j < os.length -> i ≠ j -> ¬ pr i j -> ¬ pr j i -> (S i).t.spares (S j).t = true
 dst:∀ i j (hi:i < os.length) (hj:j < os.length) d,os[j].d = some d -> (i ≠ j -> os[i].d ≠ some d) /\ (d ∈ qG os[i] -> pr i j \/ pr j i)
section
variable {P:Program} {C:Calls'} {ops:Array Oper} {os:List RO} {pr:Nat -> Nat -> Prop} {E:Nat -> Env} {H:Nat -> Hp} {S:Nat -> Stp}
theorem Drw.tr (hC:aL P C) (D:Drw P C ops os pr E H S) {k:Nat} (hk:k < os.length):TrOk (H k) (H (k + 1)) (S k).t:=by
 obtain ⟨h1,h2,h3⟩:=D.step k hk;rw [h3]; exact Jl hC h1
theorem Drw.mono (hC:aL P C) (D:Drw P C ops os pr E H S) {k:Nat}:∀ d,k + d <= os.length -> (H k).bs.length <= (H (k + d)).bs.length
 | 0,_=>Nat.le_refl _
 | d + 1,hd=>Nat.le_trans (D.mono hC d (by omega)) (D.tr hC (k:=k + d) (by omega)).le
theorem Drw.le (hC:aL P C) (D:Drw P C ops os pr E H S) {k j:Nat} (hkj:k <= j) (hj:j <= os.length):(H k).bs.length <= (H j).bs.length:=by
 have:=D.mono hC (k:=k) (j - k) (by omega)
 rwa [show k + (j - k) = j from by omega] at this
def tO (H:Nat -> Hp) (k b:Nat):Prop:=(H (k + 1)).bs[b]? ≠ (H k).bs[b]?
theorem Drw.ord (hC:aL P C) (D:Drw P C ops os pr E H S) {k i b:Nat} (hk:k < os.length) (hi:i < os.length) (hne:k ≠ i) (hc:tO H k b) (hl:(S i).t.looks b):pr i k \/ pr k i:=by
 apply Classical.byContradiction;intro hno;have ti:=D.tr hC hi;exact Ew (D.tr hC hk) ti.call ti.big (D.apart k i hk hi hne (fun q=>hno (.inr q)) fun q=>hno (.inl q)) hc hl
theorem Drw.later_looks (hC:aL P C) (D:Drw P C ops os pr E H S) {k i b:Nat} (hk:k < i) (hi:i < os.length) (hc:tO H k b) (hc2:tO H i b):(S i).t.looks b:=by
 have ti:=D.tr hC hi;rcases ti.chg b hc2 with q | q | q
 · exact .inl (ti.wr b q)
 · exfalso;have l1:=D.le hC (k:=k + 1) (j:=i) (by omega) (by omega);have l0:=(D.tr hC (k:=k) (by omega)).le;have:=ti.lo;apply hc;rw [List.getElem?_eq_none (by omega),List.getElem?_eq_none (by omega)]
 · exact .inr ⟨ti.big q.1,q.2.2.1⟩
theorem Drw.ord2 (hC:aL P C) (D:Drw P C ops os pr E H S) {k i b:Nat} (hk:k < os.length) (hi:i < os.length) (hne:k ≠ i) (hc:tO H k b) (hc2:tO H i b):pr i k \/ pr k i:=by
 rcases Nat.lt_or_gt_of_ne hne with h1 | h1
 · exact D.ord hC hk hi hne hc (D.later_looks hC h1 hi hc hc2)
 · exact (D.ord hC hi hk (Ne.symm hne) hc2 (D.later_looks hC h1 hk hc2 hc)).symm
def isD (os:List RO) (t k:Nat):Prop:=∃ o,os[k]? = some o /\ o.d = some t
structure Mid (P:Program) (C:Calls') (os:List RO) (pr:Nat -> Nat -> Prop) (E:Nat -> Env) (H:Nat -> Hp) (B:Nat) (ρ0:Rh) (w0:World) (a0:Act) (lst:Nat -> Prop) (a:Act) (w:World) (ρ:Rh) (hS:Hp) (eS:Env):Prop where
 rel:Rel B ρ hS w
 goes:Goes B ρ0 w0 ρ w
 er:ER ρ w eS a.tmps
 defers:a.defers = a0.defers
 len:hS.bs.length = (H os.length).bs.length
 elen:eS.length = (E 0).length
 down:∀ k j,k < os.length -> lst k -> pr k j -> lst j
 env:∀ t j,j <= os.length -> (∀ k,k < j -> isD os t k -> lst k) -> (∀ k,j <= k -> k < os.length -> isD os t k -> ¬ lst k) -> eS.getD t .undef = (E j).getD t .undef
 mem:∀ b j,j <= os.length -> (∀ k,k < j -> tO H k b -> lst k) -> (∀ k,j <= k -> k < os.length -> tO H k b -> ¬ lst k) -> hS.bs.getD b (.cells []) = (H j).bs.getD b (.cells [])
 num:∀ b,ρ.N b -> b < (H 0).bs.length \/ ∃ k,k < os.length /\ lst k /\ (H k).bs.length <= b /\ b < (H (k + 1)).bs.length
 gs:∀ b,ρ.G b -> b < (H 0).bs.length
theorem yH (e:Env) (d:Option Nat) (v:V):(fE e d v).length = e.length:=by cases d <;> simp [fE]
theorem Drw.elen (D:Drw P C ops os pr E H S):∀ k,k <= os.length -> (E k).length = (E 0).length
 | 0,_=>rfl
 | k + 1,hk=>by rw [(D.step k (by omega)).2.1,yH]; exact D.elen k (by omega)
theorem tF {e:Env} {d:Option Nat} {v:V} {t:Nat} (h:d ≠ some t):(fE e d v).getD t .undef = e.getD t .undef:=by
 cases d with
 | none=>rfl
 | some d =>
  have:d ≠ t:=fun e=>h (by rw [e]);simp [fE,List.getD_eq_getElem?_getD,List.getElem?_set,this]
theorem NM {e e2:Env} {v:V} {t:Nat} (hl:e.length = e2.length):(fE e (some t) v).getD t .undef = (fE e2 (some t) v).getD t .undef:=by
 simp only [fE,List.getD_eq_getElem?_getD,List.getElem?_set];by_cases h:t < e.length
 · simp [h,show t < e2.length from by omega]
 · simp [h,show ¬ t < e2.length from by omega]
theorem Mid.slots (D:Drw P C ops os pr E H S) {B:Nat} {ρ0 ρ:Rh} {w0 w:World} {a0 a:Act} {lst:Nat -> Prop} {hS:Hp} {eS:Env} (M:Mid P C os pr E H B ρ0 w0 a0 lst a w ρ hS eS) {i:Nat} (hi:i < os.length) (hnl:¬ lst i) (hpre:∀ j,pr i j -> lst j)
 {t:Nat} (ht:t ∈ qG os[i]):eS.getD t .undef = (E i).getD t .undef:=by
 have key:∀ k,k < os.length -> isD os t k -> pr i k \/ pr k i:=by
  rintro k hk ⟨o,ho,hd⟩;have:os[k] = o:=by rw [List.getElem?_eq_getElem hk] at ho; exact Option.some.inj ho
  exact (D.dst i k hi hk t (by rw [this]; exact hd)).2 ht
 refine M.env t i (by omega) (fun k hk hd=>?_) fun k hk hkn hd hlk=>?_
 · rcases key k (by omega) hd with q | q
   · exact hpre k q
   · have:=D.plt _ _ q; omega
 · rcases key k hkn hd with q | q
   · have:=D.plt _ _ q; omega
   · exact hnl (M.down k i hkn hlk q)
theorem Mid.blocks (hC:aL P C) (D:Drw P C ops os pr E H S) {B:Nat} {ρ0 ρ:Rh} {w0 w:World} {a0 a:Act} {lst:Nat -> Prop} {hS:Hp} {eS:Env} (M:Mid P C os pr E H B ρ0 w0 a0 lst a w ρ hS eS) {i:Nat} (hi:i < os.length) (hnl:¬ lst i) (hpre:∀ j,pr i j -> lst j)
 {b:Nat} (hb:(S i).t.looks b):hS.bs.getD b (.cells []) = (H i).bs.getD b (.cells []):=by
 refine M.mem b i (by omega) (fun k hk hd=>?_) fun k hk hkn hd hlk=>?_
 · rcases D.ord hC (by omega) hi (by omega) hd hb with q | q
   · exact hpre k q
   · have:=D.plt _ _ q; omega
 · have hne:k ≠ i:=by rintro rfl; exact hnl hlk
   rcases D.ord hC hkn hi hne hd hb with q | q
   · have:=D.plt _ _ q; omega
   · exact hnl (M.down k i hkn hlk q)
theorem Mid.next (hC:aL P C) (D:Drw P C ops os pr E H S) {B:Nat} {ρ0 ρ ρ':Rh} {w0 w w':World} {a0 a a':Act} {lst lst':Nat -> Prop} {hS hS':Hp} {eS:Env} (M:Mid P C os pr E H B ρ0 w0 a0 lst a w ρ hS eS) {i:Nat} (hi:i < os.length) (hnl:¬ lst i) (hpre:∀ j,pr i j -> lst j)
 (hl:∀ k,lst' k ↔ (lst k \/ k = i)) (hR:Rel B ρ' hS' w') (hG:Goes B ρ w ρ' w') (hE:ER ρ' w' (fE eS os[i].d (S i).v) a'.tmps) (hd:a'.defers = a.defers) (hlen:hS'.bs.length = hS.bs.length)
 (h1:∀ b,tO H i b -> hS'.bs.getD b (.cells []) = (H (i + 1)).bs.getD b (.cells [])) (h2:∀ b,¬ tO H i b -> hS'.bs.getD b (.cells []) = hS.bs.getD b (.cells []))
 (hN:∀ b,ρ'.N b -> ρ.N b \/ ((H i).bs.length <= b /\ b < (H (i + 1)).bs.length)):Mid P C os pr E H B ρ0 w0 a0 lst' a' w' ρ' hS' (fE eS os[i].d (S i).v) where
 rel:=hR
 goes:=M.goes.trans hG
 er:=hE
 defers:=hd.trans M.defers
 len:=hlen.trans M.len
 elen:=by rw [yH]; exact M.elen
 down k j hk hlk hp:=by
  rcases (hl k).1 hlk with q | rfl
  · exact (hl j).2 (.inl (M.down k j hk q hp))
  · exact (hl j).2 (.inl (hpre j hp))
 env t:=by
  refine wW (chg:=isD os t) (val:=fun j=>(E j).getD t .undef) hi hl hnl (fun k hk hn=>?_) (M.env t) (fun hc=>?_) fun hn=>?_
  · rw [(D.step k hk).2.1];exact tF fun q=>hn ⟨os[k],List.getElem?_eq_getElem hk,q⟩
  · obtain ⟨o,ho,hdt⟩:=hc;have he:os[i] = o:=by rw [List.getElem?_eq_getElem hi] at ho; exact Option.some.inj ho
    refine ⟨?_,fun k hik hkn hck hlk=>?_⟩
    · rw [(D.step i hi).2.1,he,hdt];exact NM (by rw [M.elen,D.elen i (by omega)])
    · obtain ⟨o2,ho2,hdt2⟩:=hck;have he2:os[k] = o2:=by rw [List.getElem?_eq_getElem hkn] at ho2; exact Option.some.inj ho2
      exact (D.dst k i hkn hi t (by rw [he]; exact hdt)).1 (by omega) (by rw [he2]; exact hdt2)
  · exact tF fun q=>hn ⟨os[i],List.getElem?_eq_getElem hi,q⟩
 mem b:=by
  refine wW (chg:=fun k=>tO H k b) (val:=fun j=>(H j).bs.getD b (.cells [])) hi hl hnl (fun k hk hn=>?_) (M.mem b) (fun hc=>⟨h1 b hc,fun k hik hkn hck hlk=>?_⟩) fun hn=>h2 b hn
  · have:(H (k + 1)).bs[b]? = (H k).bs[b]?:=Classical.byContradiction hn;simp only [List.getD_eq_getElem?_getD,this]
  · rcases D.ord2 hC hkn hi (by omega) hck hc with q | q
    · have:=D.plt _ _ q; omega
    · exact hnl (M.down k i hkn hlk q)
 num b hb:=by
  rcases hN b hb with q | q
  · rcases M.num b q with p | ⟨k,p1,p2,p3⟩
    · exact .inl p
    · exact .inr ⟨k,p1,(hl k).2 (.inl p2),p3⟩
  · exact .inr ⟨i,hi,(hl i).2 (.inr rfl),q⟩
 gs b hb:=M.gs b (by rw [← hG.ext.g]; exact hb)
end
end
end Go.Proofs.YtjkfknafpgfchaaGreat
