/- Regions whose order is open: any order comes to what the order of the text says. -/
import Derived.Test.YtjkfknafpgfchaaGreatPm
set_option linter.unusedVariables false
set_option linter.unusedSimpArgs false
namespace Go.Proofs.YtjkfknafpgfchaaGreat
section
open Go.RowKit
theorem getD_some {l:List Blk} {b:Nat} (hb:b < l.length):l[b]? = some (l.getD b (.cells [])):=by
 rw [List.getD_eq_getElem?_getD,List.getElem?_eq_getElem hb]; rfl
theorem qW {l l':List Blk} {b:Nat} (h:l[b]? = l'[b]?):l.getD b (.cells []) = l'.getD b (.cells []):=by
 simp only [List.getD_eq_getElem?_getD,h]
section
variable {P:Program} {C:Calls'} {ops:Array Oper} {os:List RO} {pr:Nat -> Nat -> Prop} {E:Nat -> Env} {H:Nat -> Hp} {S:Nat -> Stp}
theorem Jm (hC:aL P C) (D:Drw P C ops os pr E H S) {B:Nat} {ρ0 ρ:Rh} {w0 w:World} {a0 a:Act} {lst lst':Nat -> Prop} {hS:Hp} {eS:Env} (M:Mid P C os pr E H B ρ0 w0 a0 lst a w ρ hS eS) {i:Nat} (hi:i < os.length) (hnl:¬ lst i) (hpre:∀ j,pr i j -> lst j)
 (hl:∀ k,lst' k ↔ (lst k \/ k = i)) {K:Act -> World -> Prop} {Q:Exit -> Act -> World -> Prop} (hK:∀ a' w' ρ' hS' eS',Mid P C os pr E H B ρ0 w0 a0 lst' a' w' ρ' hS' eS' -> K a' w'):wpOp P ops Q i K a w:=by
 have hio:i < ops.size:=by rw [← D.len]; exact hi
 have ho:ops[i]? = some ops[i]:=Array.getElem?_eq_getElem hio;generalize ops[i] = o at ho;have hro:=D.comp i hi o ho;obtain ⟨hr,hdst,hg⟩:=kU hro;obtain ⟨hs,hE1,hH1⟩:=D.step i hi;have hslot:∀ s want,os[i].g = some (s,want) -> eS.getD s .undef = (E i).getD s .undef:=fun s want hgs=>M.slots D hi hnl hpre (by simp [qG,hgs]);unfold wpOp;simp only [ho];rcases lJ hs with ⟨hop,hgd⟩ | ⟨hv,hh',ht,j,want,hgj,hcase⟩
 ·
   have hw:Region.wanted o (yielded ops a.tmps) = true:=by
    rcases hg with ⟨hg1,hg2⟩ | ⟨j,want,p,s,hg1,hp,hps,hg2⟩
    · simp [Region.wanted,hg1]
    · rcases hgd with hgd | ⟨s',want',hgd,hval⟩
      · rw [hg2] at hgd; cases hgd
      · rw [hg2] at hgd;cases hgd;have hy:=kG hp hps M.er ((hslot s want hg2).trans hval);simp [Region.wanted,hg1,hy]
   rw [if_pos hw];obtain ⟨tok,_,hview⟩:=sP hC hop;rw [← hH1] at tok hview;have hle:=tok.le;have hTle:(H (i + 1)).bs.length <= hS.bs.length:=by rw [M.len]; exact D.le hC (by omega) (by omega)
   generalize hm:(H i).bs.length = m at *
   let hV:Hp:=⟨(List.range m).map fun b=>if (S i).t.call = true \/ b ∈ (S i).t.nd then (H i).bs.getD b (.cells []) else .cells [],m⟩
   have hVl:hV.bs.length = m:=by simp [hV]
   have hVg:∀ b,b < m -> hV.bs[b]? = some (if (S i).t.call = true \/ b ∈ (S i).t.nd then (H i).bs.getD b (.cells []) else .cells []):=fun b hb=>by
    simp only [hV,List.getElem?_map,List.getElem?_range hb,Option.map_some]
   have hVK:∀ b,b < m -> ((S i).t.call = true \/ b ∈ (S i).t.nd) -> hV.bs[b]? = (H i).bs[b]?:=fun b hb hk=>by
    rw [hVg b hb,if_pos hk,getD_some (by omega)]
   obtain ⟨h1,hm1,hlen1,hnew1,hold1⟩:=hview hV hVl rfl hVK;have hlook:∀ b,b < m -> ((S i).t.call = true \/ b ∈ (S i).t.nd) -> (S i).t.looks b:=fun b hb hk=>by
    rcases hk with hk | hk
    · exact .inr ⟨hk,by rw [tok.lo]; omega⟩
    · exact .inl hk
   have hSK:∀ b,b < m -> ((S i).t.call = true \/ b ∈ (S i).t.nd) -> hS.bs.getD b (.cells []) = (H i).bs.getD b (.cells []):=fun b hb hk=>M.blocks hC D hi hnl hpre (hlook b hb hk)
   let eM:Env:=eS.map fun x=>if x.under m = true then x else .undef
   have hMget:∀ s,eM.getD s .undef = if (eS.getD s .undef).under m = true then eS.getD s .undef else .undef:=fun s=>by
    simp only [eM,List.getD_eq_getElem?_getD,List.getElem?_map];cases eS[s]? with
    | none=>simp
    | some x=>simp
   have hcongr:opM C os[i].r eM hV = opM C os[i].r (E i) hV:=DU fun x hx=>by
    cases x with
    | c v=>rfl
    | t s =>
     have hsee:s ∈ qG os[i]:=by
      simp only [qG,List.mem_append,List.mem_filterMap];exact .inl ⟨.t s,hx,rfl⟩
     have:=M.slots D hi hnl hpre hsee;have hu:=(D.st i (by omega)).env s;rw [hm] at hu;simp only [X.ev];rw [hMget,this,if_pos hu]
   have hRv:Rel B (viewρ ρ m fun b=>(S i).t.call = true \/ b ∈ (S i).t.nd) hV w:=by
    refine Jy M.rel hVl (by omega) (fun b hb hk=>?_) (fun b hb hk=>?_) fun b blk hb hk hblk=>?_
    · rw [hVK b hb hk,getD_some (l:=(H i).bs) (by omega),getD_some (l:=hS.bs) (by omega),hSK b hb hk]
    · rw [hVg b hb,if_neg hk]
    · rw [hVK b hb hk] at hblk;have:=(D.st i (by omega)).blk hblk;rw [hm] at this;exact this
   have hEv:ER (viewρ ρ m fun b=>(S i).t.call = true \/ b ∈ (S i).t.nd) w eM a.tmps:=by
    refine ⟨by simp only [eM,List.length_map]; exact M.er.1,fun s=>?_⟩;rw [hMget];split
    · rename_i hu; exact CQ (M.er.2 s) hu
    · simp only [VR]
   refine .inl (HY hC hRv hEv hr (hcongr.trans hm1) fun v ρ1 w1 k1 k2 k3=>?_)
   let hS':Hp:=⟨(List.range hS.bs.length).map fun b=>if (m <= b /\ b < h1.bs.length) \/ (((S i).t.call = true \/ b ∈ (S i).t.nd) /\ b < m) then h1.bs.getD b (.cells []) else hS.bs.getD b (.cells []),0⟩
   have hlen':hS'.bs.length = hS.bs.length:=by simp [hS']
   have hget':∀ b,b < hS.bs.length -> hS'.bs[b]? = some (if (m <= b /\ b < h1.bs.length) \/ (((S i).t.call = true \/ b ∈ (S i).t.nd) /\ b < m) then h1.bs.getD b (.cells []) else hS.bs.getD b (.cells [])):=fun b hb=>by
    simp only [hS',List.getElem?_map,List.getElem?_range hb,Option.map_some]
   have hnew:∀ b,((m <= b /\ b < h1.bs.length) \/ (((S i).t.call = true \/ b ∈ (S i).t.nd) /\ b < m)) -> hS'.bs[b]? = h1.bs[b]?:=fun b hb=>by
    have hb1:b < h1.bs.length:=by rcases hb with q | q <;> omega
    rw [hget' b (by omega),if_pos hb,getD_some hb1]
   have hold:∀ b,¬ ((m <= b /\ b < h1.bs.length) \/ (((S i).t.call = true \/ b ∈ (S i).t.nd) /\ b < m)) -> hS'.bs[b]? = hS.bs[b]?:=fun b hb=>by
    rcases Nat.lt_or_ge b hS.bs.length with q | q
    · rw [hget' b q,if_neg hb,getD_some q]
    · rw [List.getElem?_eq_none q,List.getElem?_eq_none (by omega)]
   have h0m:(H 0).bs.length <= m:=by rw [← hm]; exact D.le hC (by omega) (by omega)
   obtain ⟨q1,q2,q3,q4⟩:=Fg (hS':=hS') M.rel k1 k2 (by omega) (by omega) hlen' (fun b hb1 hb2=>⟨fun hN=>by
    rcases M.num b hN with p | ⟨k,p1,p2,p3,p4⟩
    · omega
    · rcases Nat.lt_trichotomy k i with z | z | z
      · have:=D.le hC (k:=k + 1) (j:=i) (by omega) (by omega); omega
      · subst z; exact hnl p2
      · have:=D.le hC (k:=i + 1) (j:=k) (by omega) (by omega); omega,fun hG=>by
    have:=M.gs b hG; omega⟩) hnew hold
   refine hK _ _ _ hS' _ (M.next hC D hi hnl hpre hl q1 q2 ?_ (put_defers _ _) hlen' (fun b hc=>?_) (fun b hn=>?_) fun b hb=>?_)
   · rw [hdst]; exact q9 (M.er.ext q2.ext) (q4 k3) o.dst
   · by_cases hset:(m <= b /\ b < h1.bs.length) \/ (((S i).t.call = true \/ b ∈ (S i).t.nd) /\ b < m)
     · refine qW ((hnew b hset).trans (hnew1 b ?_));rcases hset with q | q
       · exact .inl q.1
       · exact .inr q.1
     · exfalso;apply hc;rcases Nat.lt_or_ge b m with q | q
       · exact hold1 b q fun hk=>hset (.inr ⟨hk,q⟩)
       · have:h1.bs.length <= b:=Nat.le_of_not_lt fun q2=>hset (.inl ⟨q,q2⟩);rw [List.getElem?_eq_none (by omega),List.getElem?_eq_none (by omega)]
   · have hsame:(H (i + 1)).bs[b]? = (H i).bs[b]?:=Classical.byContradiction hn;by_cases hset:(m <= b /\ b < h1.bs.length) \/ (((S i).t.call = true \/ b ∈ (S i).t.nd) /\ b < m)
     · rcases hset with q | q
       · exfalso;rw [List.getElem?_eq_none (l:=(H i).bs) (by omega),List.getElem?_eq_getElem (by omega)] at hsame;cases hsame
       · rw [hSK b q.2 q.1];exact qW (((hnew b (.inr q)).trans (hnew1 b (.inr q.1))).trans hsame)
     · exact qW (hold b hset)
   · rcases q3 b hb with q | q
     · exact .inl q
     · exact .inr ⟨by omega,by omega⟩
 ·
   have hw:¬ Region.wanted o (yielded ops a.tmps) = true:=by
    rcases hg with ⟨hg1,hg2⟩ | ⟨j',want',p,s,hg1,hp,hps,hg2⟩
    · rw [hg2] at hgj; cases hgj
    · rw [hg2] at hgj;cases hgj;rcases hcase with ⟨b,hb,hne⟩ | hb
      · have hy:=kG hp hps M.er ((hslot j want hg2).trans hb);simp [Region.wanted,hg1,hy,hne]
      · have hy:=pq hp hps M.er ((hslot j want hg2).trans hb);simp [Region.wanted,hg1,hy]
   rw [if_neg hw];have hHH:H (i + 1) = H i:=by rw [hH1,hh']
   refine hK _ _ ρ hS _ (M.next hC D hi hnl hpre hl M.rel (Goes.refl _ _ _) ?_ (put_defers _ _) rfl (fun b hc=>?_) (fun _ _=>rfl) fun b hb=>.inl hb)
   · rw [hv,hdst]; exact vX M.er o.dst
   · exact absurd (by rw [hHH]) hc
theorem qz {p q:Nat -> Bool} {x:Nat} (h:∀ y,q y = true -> p y = true) (hp:p x = true) (hq:q x = false):∀ {l:List Nat},x ∈ l -> (l.filter q).length < (l.filter p).length
 | y :: l,hx=>by
  have hle:∀ l:List Nat,(l.filter q).length <= (l.filter p).length:=fun l=>by
   induction l with
   | nil=>simp
   | cons z l ih =>
    by_cases hz:q z = true
    · simp [List.filter_cons,hz,h z hz,ih]
    · by_cases hz2:p z = true
      · simp [List.filter_cons,hz,hz2]; omega
      · simp [List.filter_cons,hz,hz2,ih]
  rcases List.mem_cons.1 hx with rfl | hx
  · simp [List.filter_cons,hp,hq]; exact Nat.lt_succ_of_le (hle l)
  · have ih:=qz h hp hq hx;by_cases hz:q y = true
    · simp [List.filter_cons,hz,h y hz,ih]
    · by_cases hz2:p y = true
      · simp [List.filter_cons,hz,hz2]; omega
      · simp [List.filter_cons,hz,hz2,ih]
theorem QK (hC:aL P C) (D:Drw P C ops os pr E H S) {B:Nat} {ρ0:Rh} {w0:World} {a0:Act} {Q:Exit -> Act -> World -> Prop}
 (hQ:∀ (lst:Nat -> Prop) a w ρ hS eS,(∀ k,k < os.length -> lst k) -> Mid P C os pr E H B ρ0 w0 a0 lst a w ρ hS eS -> Q .normal a w) :
 ∀ (fuel:Nat) (listed:Array Bool) (a:Act) (w:World) (ρ:Rh) (hS:Hp) (eS:Env),listed.size = os.length -> Mid P C os pr E H B ρ0 w0 a0 (fun k=>listed.getD k false = true) a w ρ hS eS -> ((List.range os.length).filter fun k=>!listed.getD k false).length <= fuel -> wpAny P .any ops Q fuel listed a w:=by
 have hready:∀ (listed:Array Bool),listed.size = os.length -> ∀ i,i ∈ Region.ready .any ops listed -> i < os.length /\ listed.getD i false = false /\ ∃ o,ops[i]? = some o /\ ∀ e ∈ o.after,Region.binds .any e = true -> listed.getD e.on false = true:=by
  intro listed hsz i hi;obtain ⟨h1,o,h2,h3⟩:=mem_ready.1 hi;have hlt:i < os.length:=by rw [D.len]; exact (Array.getElem?_eq_some_iff.1 h2).1
  refine ⟨hlt,?_,o,h2,h3⟩;simp only [Array.getD_eq_getD_getElem?,Array.getElem?_eq_getElem (show i < listed.size from by omega),Option.getD_some] at h1 ⊢;exact h1
 have hall:∀ (listed:Array Bool),listed.size = os.length -> Region.ready .any ops listed = [] -> ∀ n k,k < n -> k < os.length -> listed.getD k false = true:=by
  intro listed hsz hnil n
  induction n with
  | zero=>intro k hk; exact absurd hk (Nat.not_lt_zero _)
  | succ n ih =>
   intro k hk hkl;apply Classical.byContradiction;intro hno;have hlt:k < ops.size:=by rw [← D.len]; exact hkl
   have:k ∈ Region.ready .any ops listed:=mem_ready.2 ⟨by
    simp only [Array.getD_eq_getD_getElem?,Array.getElem?_eq_getElem (show k < listed.size from by omega),Option.getD_some] at hno ⊢;simpa using hno,ops[k],Array.getElem?_eq_getElem hlt,fun e he hb=>by
     have hp:=D.pin k _ (Array.getElem?_eq_getElem hlt) e he hb;have:=D.plt _ _ hp;exact ih e.on (by omega) (by omega)⟩
   rw [hnil] at this;cases this
 intro fuel
 induction fuel with
 | zero =>
  intro listed a w ρ hS eS hsz M hle;have hnil:Region.ready .any ops listed = []:=by
   cases hr:Region.ready .any ops listed with
   | nil=>rfl
   | cons i is =>
    obtain ⟨h1,h2,_⟩:=hready listed hsz i (by rw [hr]; simp);have:i ∈ (List.range os.length).filter fun k=>!listed.getD k false:=List.mem_filter.2 ⟨List.mem_range.2 h1,by rw [h2]; rfl⟩;have h0:=List.eq_nil_of_length_eq_zero (Nat.le_zero.1 hle);rw [h0] at this;cases this
  exact ⟨hnil,hQ _ a w ρ hS eS (fun k hk=>hall listed hsz hnil (k + 1) k (by omega) hk) M⟩
 | succ fuel ih =>
  intro listed a w ρ hS eS hsz M hle;refine ⟨fun hnil=>hQ _ a w ρ hS eS (fun k hk=>hall listed hsz hnil (k + 1) k (by omega) hk) M,fun i hi=>?_⟩;obtain ⟨h1,h2,o,h3,h4⟩:=hready listed hsz i hi;have hget:∀ k,(listed.setIfInBounds i true).getD k false = true ↔ (listed.getD k false = true \/ k = i):=by
   intro k;simp only [Array.getD_eq_getD_getElem?,Array.getElem?_setIfInBounds];by_cases e:i = k
   · subst e; simp [show i < listed.size from by omega]
   · have:¬ k = i:=fun q=>e q.symm;simp [e,this]
  refine Jm hC D M h1 (by rw [h2]; simp) (fun j hj=>?_) hget fun a' w' ρ' hS' eS' M'=>ih _ a' w' ρ' hS' eS' (by simpa using hsz) M' ?_
  · obtain ⟨e,he,hb,hj⟩:=D.pto i o h3 j hj;have:=h4 e he hb;rcases hj with rfl | hj
    · exact this
    · exact M.down e.on j (by have:=D.plt _ _ (D.pin i o h3 e he hb); omega) this hj
  · have:=qz (p:=fun k=>!listed.getD k false) (q:=fun k=>!(listed.setIfInBounds i true).getD k false) (x:=i) (fun y hy=>by
     simp only [Bool.not_eq_true'] at hy ⊢;cases hq:listed.getD y false with
     | false=>rfl
     | true=>rw [(hget y).2 (.inl hq)] at hy; cases hy) (by simp [h2]) (by simp [(hget i).2 (.inr rfl)]) (List.mem_range.2 h1)
    omega
end
end
section
open Go.RowKit
theorem K5 {B:Nat} {ρ:Rh} {h h':Hp} {w:World} (hR:Rel B ρ h w) (hle:h.bs.length <= h'.bs.length) (hs:∀ b,b < h.bs.length -> h'.bs[b]? = h.bs[b]?) (hd:∀ b,h.bs.length <= b -> b < h'.bs.length -> h'.bs[b]? = some (.cells [])):Rel B ρ h' w:=by
 have key:∀ i (hi:i < h'.bs.length),(∃ hi':i < h.bs.length,h'.bs[i] = h.bs[i]) \/ h'.bs[i] = .cells []:=by
  intro i hi;rcases Nat.lt_or_ge i h.bs.length with q | q
  · have:=hs i q;rw [List.getElem?_eq_getElem hi,List.getElem?_eq_getElem q] at this;exact .inl ⟨q,Option.some.inj this⟩
  · have:=hd i q hi;rw [List.getElem?_eq_getElem hi] at this;exact .inr (Option.some.inj this)
 refine ⟨fun i hi=>Nat.lt_of_lt_of_le (hR.dom i hi) hle,hR.ln,fun i hi hl=>?_,hR.lo,hR.base,hR.inj,fun i hi=>?_,hR.xB,fun c hc=>⟨(hR.gB c hc).1,Nat.lt_of_lt_of_le (hR.gB c hc).2 hle⟩⟩
 · rcases key i hi with ⟨q,e⟩ | e
   · exact hR.live i q (by rw [← e]; exact hl)
   · rw [e] at hl; simp [Blk.live] at hl
 · rcases key i hi with ⟨q,e⟩ | e
   · rw [e]; exact hR.mem i q
   · rw [e]; simp only [BR]
theorem Kl {P:Program} (hmix:P.follows .mixedOrders = true) {C:Calls'} (hC:aL P C):uM P C:=by
 intro B id ops os e h ρ w a e' h' Q hos hdr ho hR hE hQ;refine wp_region_any hmix ?_;show wpAny P .any ops Q ops.size (Array.replicate ops.size false) a w.drew;have hR:Rel B ρ h w.drew:=hR.same rfl;have hE':ER ρ w.drew e a.tmps:=hE.ext (Goes.drew (B:=B) w).ext;obtain ⟨hlen,hcomp⟩:=mapM_some hos;have hlen':os.length = ops.size:=by simpa using hlen
 unfold rW at hdr;simp only [Bool.and_eq_true] at hdr;obtain ⟨hd1,hd2⟩:=hdr;have hord:∀ i o,ops[i]? = some o -> ∀ e ∈ o.after,Region.binds .any e = true -> e.on < i:=by
  intro i o hio x hx hb;have:=List.all_eq_true.1 hd1 (o,i) (List.mem_zipIdx_iff_getElem?.2 (by simpa using hio));have:=List.all_eq_true.1 this x (by simpa using hx);simpa [hb] using this
 have hx:∃ l,kC C os e h = some (l,e',h') /\ pG (bZ ops) l = true:=by
  unfold sV at ho;split at ho
  · rename_i l e1 h1 hrun;split at ho
    · rename_i hap;cases ho;exact ⟨l,hrun,hap⟩
    · cases ho
  · cases ho
 obtain ⟨l,hrun,hap⟩:=hx;obtain ⟨E,H,rfl,rfl,rfl,rfl,hll,hsteps⟩:=yC hrun
 let S:Nat -> Stp:=fun k=>(l[k]?).getD ⟨H 0,.undef,H 0,aV (H 0)⟩
 have hS:∀ k (hk:k < os.length),l[k]? = some (S k) /\ stepD C os[k] (E k) (H k) = some (S k) /\ E (k + 1) = fE (E k) os[k].d (S k).v /\ H (k + 1) = (S k).h':=by
  intro k hk;obtain ⟨s,p1,p2,p3,p4⟩:=hsteps k hk;have:S k = s:=by simp only [S,p1]; rfl
  rw [this]; exact ⟨p1,p2,p3,p4⟩
 have hco:∀ k (hk:k < os.length) o,ops[k]? = some o -> qw P ops o = some os[k]:=by
  intro k hk o hko;obtain ⟨q1,q2⟩:=Array.getElem?_eq_some_iff.1 hko;have:=hcomp k (by simpa using q1) hk;simpa [q2] using this
 have hst:∀ k,k <= os.length -> Stands (E k) (H k):=by
  intro k
  induction k with
  | zero=>intro _; exact ⟨B,ρ,w.drew,a.tmps,hR,hE'⟩
  | succ k ih =>
   intro hk;obtain ⟨_,p2,p3,p4⟩:=hS k (by omega);have hlt:k < ops.size:=by omega
   rw [p3,p4];exact (ih (by omega)).stepD hC (hco k (by omega) _ (Array.getElem?_eq_getElem hlt)) p2
 have D:Drw P C ops os (fun i j=>j ∈ (bZ ops).getD i []) E H S:=by
  refine ⟨hlen',hco,fun k hk=>(hS k hk).2,hst,fun k j hj=>ym hord (k + 1) k (by omega) j hj,fun k o hko j hj=>(pX hord hko).1 hj,fun k o hko x hx hb=>(pX hord hko).2 ⟨x,hx,hb,.inl rfl⟩,fun i j hi hj hne n1 n2=>?_,fun i j hi hj d hd=>?_⟩
  · have:=List.all_eq_true.1 hap i (List.mem_range.2 (by omega));have:=List.all_eq_true.1 this j (List.mem_range.2 (by omega));rw [(hS i hi).1,(hS j hj).1] at this;have c1:((bZ ops).getD i []).contains j = false:=by
     cases hq:((bZ ops).getD i []).contains j with
     | false=>rfl
     | true=>exact absurd (by simpa using hq) n1
    have c2:((bZ ops).getD j []).contains i = false:=by
     cases hq:((bZ ops).getD j []).contains i with
     | false=>rfl
     | true=>exact absurd (by simpa using hq) n2
    rw [c1,c2] at this;simpa [hne] using this
  · have:=List.all_eq_true.1 hd2 i (List.mem_range.2 hi);have:=List.all_eq_true.1 this j (List.mem_range.2 hj);rw [List.getElem?_eq_getElem hi,List.getElem?_eq_getElem hj] at this;simp only [hd,Bool.and_eq_true] at this;obtain ⟨t1,t2⟩:=this;refine ⟨fun hne=>?_,fun hsee=>?_⟩
    · rcases Bool.or_eq_true_iff.1 t1 with q | q
      · exact absurd (by simpa using q) hne
      · simpa using q
    · rcases Bool.or_eq_true_iff.1 t2 with q | q
      · rcases Bool.or_eq_true_iff.1 q with q | q
        · have hcon:(qG os[i]).contains d = true:=by simpa using hsee
          rw [hcon] at q; cases q
        · simp only [Bool.and_eq_true] at q;exact .inl (by simpa using q.2)
      · simp only [Bool.and_eq_true] at q;exact .inr (by simpa using q.2)
 have hT:=D.le hC (k:=0) (j:=os.length) (by omega) (by omega)
 let hS0:Hp:=⟨(List.range (H os.length).bs.length).map fun b=>(H 0).bs.getD b (.cells []),0⟩
 have hl0:hS0.bs.length = (H os.length).bs.length:=by simp [hS0]
 have hg0:∀ b,b < (H os.length).bs.length -> hS0.bs[b]? = some ((H 0).bs.getD b (.cells [])):=fun b hb=>by
  simp only [hS0,List.getElem?_map,List.getElem?_range hb,Option.map_some]
 have hR0:Rel B ρ hS0 w.drew:=K5 hR (by omega) (fun b hb=>by rw [hg0 b (by omega),getD_some hb]) fun b hb hb2=>by
  rw [hg0 b (by omega),List.getD_eq_getElem?_getD,List.getElem?_eq_none hb]; rfl
 have hf:∀ k,¬ (Array.replicate ops.size false).getD k false = true:=fun k=>by
  simp only [Array.getD_eq_getD_getElem?,Array.getElem?_replicate];split <;> simp
 have M:Mid P C os (fun i j=>j ∈ (bZ ops).getD i []) E H B ρ w.drew a (fun k=>(Array.replicate ops.size false).getD k false = true) a w.drew ρ hS0 (E 0):=by
  refine ⟨hR0,Goes.refl _ _ _,hE',rfl,hl0,rfl,fun k j hk hlk _=>absurd hlk (hf k),fun t j hj ha _=>?_,fun b j hj ha _=>?_,fun b hb=>.inl (hR.dom b hb),fun b hb=>(hR.gB b hb).2⟩
  · have:∀ d,d <= j -> (E d).getD t .undef = (E 0).getD t .undef:=by
     intro d
     induction d with
     | zero=>intro _; rfl
     | succ d ih =>
      intro hd;rw [← ih (by omega),(D.step d (by omega)).2.1];exact tF fun q=>hf d (ha d (by omega) ⟨os[d],List.getElem?_eq_getElem (by omega),q⟩)
    exact (this j (Nat.le_refl _)).symm
  · have:∀ d,d <= j -> (H d).bs[b]? = (H 0).bs[b]?:=by
     intro d
     induction d with
     | zero=>intro _; rfl
     | succ d ih =>
      intro hd;rw [← ih (by omega)];exact Classical.byContradiction fun q=>hf d (ha d (by omega) q)
    rw [qW (this j (Nat.le_refl _))];rcases Nat.lt_or_ge b (H os.length).bs.length with q | q
    · have:=hg0 b q;rw [List.getD_eq_getElem?_getD,this]; rfl
    · simp only [List.getD_eq_getElem?_getD];rw [List.getElem?_eq_none (by omega),List.getElem?_eq_none (by omega)]
 refine QK hC D (fun lst a' w' ρ' hS' eS' hall M'=>?_) ops.size (Array.replicate ops.size false) a w.drew ρ hS0 (E 0) (by simp [hlen']) M ?_
 · have hb:hS'.bs = (H os.length).bs:=List.ext_getElem? fun b=>by
    have:=M'.mem b os.length (Nat.le_refl _) (fun k hk _=>hall k hk) fun k h1 h2=>by omega
    rcases Nat.lt_or_ge b (H os.length).bs.length with q | q
    · rw [getD_some (l:=hS'.bs) (by rw [M'.len]; exact q),getD_some q,this]
    · rw [List.getElem?_eq_none q,List.getElem?_eq_none (by rw [M'.len]; exact q)]
   refine hQ a' w' ⟨ρ',M'.rel.bs hb.symm,(Goes.drew w).trans M'.goes,⟨?_,fun i=>?_⟩,M'.defers⟩
   · rw [D.elen os.length (Nat.le_refl _),← M'.elen]; exact M'.er.1
   · rw [← M'.env i os.length (Nat.le_refl _) (fun k hk _=>hall k hk) fun k h1 h2=>by omega];exact M'.er.2 i
 · rw [← hlen'];exact Nat.le_trans (List.length_filter_le _ _) (by simp)
theorem reads {P:Program} (hmix:P.follows .mixedOrders = true) {E:Calls'} (hE:aL P E) {F:FuncId -> Option RF} (val:FuncId -> Bool) (hT:BD P F) (k:Nat):aL P (ug E F val k) :=
 Jh hE val hT (fun _ hC=>Kl hmix hC) k
end
section
theorem zA {P:Program}:∀ (c:Code) {rc:RC},comp P c = some rc -> rc.strip = rc:=by
 intro c
 induction c with
 | scope b ih=>intro rc h; exact ih h
 | region id ops draw =>
  intro rc h;simp only [comp] at h;replace h:=ae h; obtain ⟨os,hos,h⟩:=h;split at h
  · split at h
    · cases h; rfl
    · cases h
  · cases h; rfl
 | seq x y ihx ihy =>
  intro rc h;simp only [comp] at h;replace h:=ae h; obtain ⟨a,ha,h⟩:=h;replace h:=ae h; obtain ⟨b,hb,h⟩:=h;cases h;simp only [RC.strip,ihx ha,ihy hb]
 | cond x t f iht ihf =>
  intro rc h;simp only [comp] at h;replace h:=ae h; obtain ⟨x',hx,h⟩:=h;replace h:=ae h; obtain ⟨a,ha,h⟩:=h;replace h:=ae h; obtain ⟨b,hb,h⟩:=h;cases h;simp only [RC.strip,iht ha,ihf hb]
 | block i b ih =>
  intro rc h;simp only [comp] at h;replace h:=ae h; obtain ⟨a,ha,h⟩:=h;cases h;simp only [RC.strip,ih ha]
 | loop b ih =>
  intro rc h;simp only [comp] at h;replace h:=ae h; obtain ⟨a,ha,h⟩:=h;cases h;simp only [RC.strip,ih ha]
 | skip=>intro rc h; simp [comp] at h; subst h; rfl
 | label l=>intro rc h; simp [comp] at h; subst h; rfl
 | ret=>intro rc h; simp [comp] at h; subst h; rfl
 | exit i=>intro rc h; simp [comp] at h; subst h; rfl
 | goto l=>intro rc h; simp [comp] at h
 | refuse s=>intro rc h; simp [comp] at h
 | rangeFunc f ps x y=>intro rc h; simp [comp] at h
theorem VV (P:Program):BD P (AC P):=by
 intro f rf h;unfold AC at h;replace h:=ae h; obtain ⟨fn,hf,h⟩:=h;replace h:=ae h; obtain ⟨b,hb,h⟩:=h;replace h:=ae h; obtain ⟨c,hc,h⟩:=h;replace h:=ae h; obtain ⟨res,hr,h⟩:=h;split at h
 · cases h
 · rename_i hn;cases h;exact ⟨fn,b,hf,hb,by rw [zA b hc]; exact hc,rfl,hr,hn⟩
end
end Go.Proofs.YtjkfknafpgfchaaGreat
