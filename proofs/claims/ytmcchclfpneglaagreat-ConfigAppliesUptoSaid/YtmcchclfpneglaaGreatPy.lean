/- Regions whose order is open: any order comes to what the order of the text says. -/
import Derived.Test.YtmcchclfpneglaaGreatPf
set_option linter.unusedVariables false
set_option linter.unusedSimpArgs false
namespace Go.Proofs.YtmcchclfpneglaaGreat
section
open Go.RowKit
theorem getD_some {l:List Blk}{b:Nat}(hb:b<l.length):l[b]?=some (l.getD b (.cells [])):=by
 rw [bo,ac hb]; rfl
theorem uP {l l':List Blk}{b:Nat}(h:l[b]?=l'[b]?):l.getD b (.cells [])=l'.getD b (.cells []):=by
 simp only [bo,h]
section
variable {P:Program}{C:Calls'}{ops:Array Oper}{os:List RO}{pr:Nat->Nat->Prop}{E:Nat->Env}{H:Nat->Hp}{S:Nat->Stp}
theorem JL (hC:aQ P C)(D:Drw P C ops os pr E H S){B:Nat}{ρ0 ρ:Rh}{w0 w:World}{a0 a:Act}{lst lst':Nat->Prop}{hS:Hp}{eS:Env}(M:Mid P C os pr E H B ρ0 w0 a0 lst a w ρ hS eS){i:Nat}(hi:i<os.length)(hnl:¬ lst i)(hpre:∀ j,pr i j->lst j)
 (hl:∀ k,lst' k↔(lst k\/k=i)) {K:Act->World->Prop} {Q:Exit->Act->World->Prop} (hK:∀ a' w' ρ' hS' eS',Mid P C os pr E H B ρ0 w0 a0 lst' a' w' ρ' hS' eS'->K a' w'):wpOp P ops Q i K a w:=by
 have hio:i<ops.size:=by rw [← D.len]; exact hi
 have ho:ops[i]?=some ops[i]:=Array.getElem?_eq_getElem hio;generalize ops[i]=o at ho;have hro:=D.comp i hi o ho;obtain ⟨hr,hdst,hg⟩:=nk hro;obtain ⟨hs,hE1,hH1⟩:=D.step i hi;have hslot:∀ s want,os[i].g=some (s,want)->eS.getD s .undef=(E i).getD s .undef:=fun s want hgs=>M.slots D hi hnl hpre (by simp [uG,hgs]);unfold wpOp;simp only [ho];rcases nS hs with ⟨hop,hgd⟩ | ⟨hv,hh',ht,j,want,hgj,hcase⟩
 ·
   have hw:Region.wanted o (yielded ops a.tmps)=true:=by
    rcases hg with ⟨hg1,hg2⟩ | ⟨j,want,p,s,hg1,hp,hps,hg2⟩
    · simp [Region.wanted,hg1]
    · rcases hgd with hgd | ⟨s',want',hgd,hval⟩
      · rw [hg2] at hgd; cases hgd
      · rw [hg2] at hgd;cases hgd;have hy:=mK hp hps M.er ((hslot s want hg2).trans hval);simp [Region.wanted,hg1,hy]
   rw [if_pos hw];obtain ⟨tok,_,hview⟩:=wD hC hop;rw [← hH1] at tok hview;have hle:=tok.le;have hTle:(H (i+1)).bs.length<=hS.bs.length:=by rw [M.len]; exact D.le hC (by omega) (by omega)
   generalize hm:(H i).bs.length=m at *
   let hV:Hp:=⟨(List.range m).map fun b=>if (S i).t.call=true\/b∈(S i).t.nd then (H i).bs.getD b (.cells []) else .cells [],m⟩
   have hVl:hV.bs.length=m:=by simp [hV]
   have hVg:∀ b,b<m->hV.bs[b]?=some (if (S i).t.call=true\/b∈(S i).t.nd then (H i).bs.getD b (.cells []) else .cells []):=fun b hb=>by
    simp only [hV,List.getElem?_map,List.getElem?_range hb,Option.map_some]
   have hVK:∀ b,b<m->((S i).t.call=true\/b∈(S i).t.nd)->hV.bs[b]?=(H i).bs[b]?:=fun b hb hk=>by
    rw [hVg b hb,if_pos hk,getD_some (by omega)]
   obtain ⟨h1,hm1,hlen1,hnew1,hold1⟩:=hview hV hVl rfl hVK;have hlook:∀ b,b<m->((S i).t.call=true\/b∈(S i).t.nd)->(S i).t.looks b:=fun b hb hk=>by
    rcases hk with hk | hk
    · exact .inr ⟨hk,by rw [tok.lo]; omega⟩
    · exact .inl hk
   have hSK:∀ b,b<m->((S i).t.call=true\/b∈(S i).t.nd)->hS.bs.getD b (.cells [])=(H i).bs.getD b (.cells []):=fun b hb hk=>M.blocks hC D hi hnl hpre (hlook b hb hk)
   let eM:Env:=eS.map fun x=>if x.under m=true then x else .undef
   have hMget:∀ s,eM.getD s .undef=if (eS.getD s .undef).under m=true then eS.getD s .undef else .undef:=fun s=>by
    simp only [eM,bo,List.getElem?_map];cases eS[s]? with
    | none=>simp
    | some x=>simp
   have hcongr:opM C os[i].r eM hV=opM C os[i].r (E i) hV:=F7 fun x hx=>by
    cases x with
    | c v=>rfl
    | t s =>
     have hsee:s∈uG os[i]:=by
      simp only [uG,List.mem_append,List.mem_filterMap];exact .inl ⟨.t s,hx,rfl⟩
     have:=M.slots D hi hnl hpre hsee;have hu:=(D.st i (by omega)).env s;rw [hm] at hu;simp only [X.ev];rw [hMget,this,if_pos hu]
   have hRv:Rel B (viewρ ρ m fun b=>(S i).t.call=true\/b∈(S i).t.nd) hV w:=by
    refine JV M.rel hVl (by omega) (fun b hb hk=>?_) (fun b hb hk=>?_) fun b blk hb hk hblk=>?_
    · rw [hVK b hb hk,getD_some (l:=(H i).bs) (by omega),getD_some (l:=hS.bs) (by omega),hSK b hb hk]
    · rw [hVg b hb,if_neg hk]
    · rw [hVK b hb hk] at hblk;have:=(D.st i (by omega)).blk hblk;rw [hm] at this;exact this
   have hEv:ER (viewρ ρ m fun b=>(S i).t.call=true\/b∈(S i).t.nd) w eM a.tmps:=by
    refine ⟨by simp only [eM,bx]; exact M.er.1,fun s=>?_⟩;rw [hMget];split
    · rename_i hu; exact EY (M.er.2 s) hu
    · simp only [VR]
   refine .inl (IW hC hRv hEv hr (hcongr.trans hm1) fun v ρ1 w1 k1 k2 k3=>?_)
   let hS':Hp:=⟨(List.range hS.bs.length).map fun b=>if (m<=b/\b<h1.bs.length)\/(((S i).t.call=true\/b∈(S i).t.nd)/\b<m) then h1.bs.getD b (.cells []) else hS.bs.getD b (.cells []),0⟩
   have hlen':hS'.bs.length=hS.bs.length:=by simp [hS']
   have hget':∀ b,b<hS.bs.length->hS'.bs[b]?=some (if (m<=b/\b<h1.bs.length)\/(((S i).t.call=true\/b∈(S i).t.nd)/\b<m) then h1.bs.getD b (.cells []) else hS.bs.getD b (.cells [])):=fun b hb=>by
    simp only [hS',List.getElem?_map,List.getElem?_range hb,Option.map_some]
   have hnew:∀ b,((m<=b/\b<h1.bs.length)\/(((S i).t.call=true\/b∈(S i).t.nd)/\b<m))->hS'.bs[b]?=h1.bs[b]?:=fun b hb=>by
    have hb1:b<h1.bs.length:=by rcases hb with q | q<;>omega
    rw [hget' b (by omega),if_pos hb,getD_some hb1]
   have hold:∀ b,¬ ((m<=b/\b<h1.bs.length)\/(((S i).t.call=true\/b∈(S i).t.nd)/\b<m))->hS'.bs[b]?=hS.bs[b]?:=fun b hb=>by
    rcases ck b hS.bs.length with q | q
    · rw [hget' b q,if_neg hb,getD_some q]
    · rw [bb q,bb (by omega)]
   have h0m:(H 0).bs.length<=m:=by rw [← hm]; exact D.le hC (by omega) (by omega)
   obtain ⟨q1,q2,q3,q4⟩:=Hl (hS':=hS') M.rel k1 k2 (by omega) (by omega) hlen' (fun b hb1 hb2=>⟨fun hN=>by
    rcases M.num b hN with p | ⟨k,p1,p2,p3,p4⟩
    · omega
    · rcases Nat.lt_trichotomy k i with z | z | z
      · have:=D.le hC (k:=k+1) (j:=i) (by omega) (by omega); omega
      · subst z; exact hnl p2
      · have:=D.le hC (k:=i+1) (j:=k) (by omega) (by omega); omega,fun hG=>by
    have:=M.gs b hG; omega⟩) hnew hold
   refine hK _ _ _ hS' _ (M.next hC D hi hnl hpre hl q1 q2 ?_ (put_defers _ _) hlen' (fun b hc=>?_) (fun b hn=>?_) fun b hb=>?_)
   · rw [hdst]; exact uU (M.er.ext q2.ext) (q4 k3) o.dst
   · by_cases hset:(m<=b/\b<h1.bs.length)\/(((S i).t.call=true\/b∈(S i).t.nd)/\b<m)
     · refine uP ((hnew b hset).trans (hnew1 b ?_));rcases hset with q | q
       · exact .inl q.1
       · exact .inr q.1
     · exfalso;apply hc;rcases ck b m with q | q
       · exact hold1 b q fun hk=>hset (.inr ⟨hk,q⟩)
       · have:h1.bs.length<=b:=Nat.le_of_not_lt fun q2=>hset (.inl ⟨q,q2⟩);rw [bb (by omega),bb (by omega)]
   · have hsame:(H (i+1)).bs[b]?=(H i).bs[b]?:=Classical.byContradiction hn;by_cases hset:(m<=b/\b<h1.bs.length)\/(((S i).t.call=true\/b∈(S i).t.nd)/\b<m)
     · rcases hset with q | q
       · exfalso;rw [bb (l:=(H i).bs) (by omega),ac (by omega)] at hsame;cases hsame
       · rw [hSK b q.2 q.1];exact uP (((hnew b (.inr q)).trans (hnew1 b (.inr q.1))).trans hsame)
     · exact uP (hold b hset)
   · rcases q3 b hb with q | q
     · exact .inl q
     · exact .inr ⟨by omega,by omega⟩
 ·
   have hw:¬ Region.wanted o (yielded ops a.tmps)=true:=by
    rcases hg with ⟨hg1,hg2⟩ | ⟨j',want',p,s,hg1,hp,hps,hg2⟩
    · rw [hg2] at hgj; cases hgj
    · rw [hg2] at hgj;cases hgj;rcases hcase with ⟨b,hb,hne⟩ | hb
      · have hy:=mK hp hps M.er ((hslot j want hg2).trans hb);simp [Region.wanted,hg1,hy,hne]
      · have hy:=sG hp hps M.er ((hslot j want hg2).trans hb);simp [Region.wanted,hg1,hy]
   rw [if_neg hw];have hHH:H (i+1)=H i:=by rw [hH1,hh']
   refine hK _ _ ρ hS _ (M.next hC D hi hnl hpre hl M.rel (Goes.refl _ _ _) ?_ (put_defers _ _) rfl (fun b hc=>?_) (fun _ _=>rfl) fun b hb=>.inl hb)
   · rw [hv,hdst]; exact zU M.er o.dst
   · exact absurd (by rw [hHH]) hc
theorem uz {p q:Nat->Bool}{x:Nat}(h:∀ y,q y=true->p y=true)(hp:p x=true)(hq:q x=false):∀ {l:List Nat},x∈l->(l.filter q).length<(l.filter p).length
 | y::l,hx=>by
  have hle:∀ l:List Nat,(l.filter q).length<=(l.filter p).length:=fun l=>by
   induction l with
   | nil=>simp
   | cons z l ih =>
    by_cases hz:q z=true
    · simp [List.filter_cons,hz,h z hz,ih]
    · by_cases hz2:p z=true
      · simp [List.filter_cons,hz,hz2]; omega
      · simp [List.filter_cons,hz,hz2,ih]
  rcases List.mem_cons.1 hx with rfl | hx
  · simp [List.filter_cons,hp,hq]; exact Nat.lt_succ_of_le (hle l)
  · have ih:=uz h hp hq hx;by_cases hz:q y=true
    · simp [List.filter_cons,hz,h y hz,ih]
    · by_cases hz2:p y=true
      · simp [List.filter_cons,hz,hz2]; omega
      · simp [List.filter_cons,hz,hz2,ih]
theorem NT (hC:aQ P C)(D:Drw P C ops os pr E H S){B:Nat}{ρ0:Rh}{w0:World}{a0:Act}{Q:Exit->Act->World->Prop}
 (hQ:∀ (lst:Nat->Prop) a w ρ hS eS,(∀ k,k<os.length->lst k)->Mid P C os pr E H B ρ0 w0 a0 lst a w ρ hS eS->Q .normal a w) :
 ∀ (fuel:Nat) (listed:Array Bool) (a:Act) (w:World) (ρ:Rh) (hS:Hp) (eS:Env),listed.size=os.length->Mid P C os pr E H B ρ0 w0 a0 (fun k=>listed.getD k false=true) a w ρ hS eS->((List.range os.length).filter fun k=>!listed.getD k false).length<=fuel->wpAny P .any ops Q fuel listed a w:=by
 have hready:∀ (listed:Array Bool),listed.size=os.length->∀ i,i∈Region.ready .any ops listed->i<os.length/\listed.getD i false=false/\∃ o,ops[i]?=some o/\∀ e∈o.after,Region.binds .any e=true->listed.getD e.on false=true:=by
  intro listed hsz i hi;obtain ⟨h1,o,h2,h3⟩:=mem_ready.1 hi;have hlt:i<os.length:=by rw [D.len]; exact (Array.getElem?_eq_some_iff.1 h2).1
  refine ⟨hlt,?_,o,h2,h3⟩;simp only [Array.getD_eq_getD_getElem?,Array.getElem?_eq_getElem (show i<listed.size from by omega),Option.getD_some] at h1 ⊢;exact h1
 have hall:∀ (listed:Array Bool),listed.size=os.length->Region.ready .any ops listed=[]->∀ n k,k<n->k<os.length->listed.getD k false=true:=by
  intro listed hsz hnil n
  induction n with
  | zero=>intro k hk; exact absurd hk (Nat.not_lt_zero _)
  | succ n ih =>
   intro k hk hkl;apply Classical.byContradiction;intro hno;have hlt:k<ops.size:=by rw [← D.len]; exact hkl
   have:k∈Region.ready .any ops listed:=mem_ready.2 ⟨by
    simp only [Array.getD_eq_getD_getElem?,Array.getElem?_eq_getElem (show k<listed.size from by omega),Option.getD_some] at hno ⊢;simpa using hno,ops[k],Array.getElem?_eq_getElem hlt,fun e he hb=>by
     have hp:=D.pin k _ (Array.getElem?_eq_getElem hlt) e he hb;have:=D.plt _ _ hp;exact ih e.on (by omega) (by omega)⟩
   rw [hnil] at this;cases this
 intro fuel
 induction fuel with
 | zero =>
  intro listed a w ρ hS eS hsz M hle;have hnil:Region.ready .any ops listed=[]:=by
   cases hr:Region.ready .any ops listed with
   | nil=>rfl
   | cons i is =>
    obtain ⟨h1,h2,_⟩:=hready listed hsz i (by rw [hr]; simp);have:i∈(List.range os.length).filter fun k=>!listed.getD k false:=List.mem_filter.2 ⟨List.mem_range.2 h1,by rw [h2]; rfl⟩;have h0:=List.eq_nil_of_length_eq_zero (Nat.le_zero.1 hle);rw [h0] at this;cases this
  exact ⟨hnil,hQ _ a w ρ hS eS (fun k hk=>hall listed hsz hnil (k+1) k (by omega) hk) M⟩
 | succ fuel ih =>
  intro listed a w ρ hS eS hsz M hle;refine ⟨fun hnil=>hQ _ a w ρ hS eS (fun k hk=>hall listed hsz hnil (k+1) k (by omega) hk) M,fun i hi=>?_⟩;obtain ⟨h1,h2,o,h3,h4⟩:=hready listed hsz i hi;have hget:∀ k,(listed.setIfInBounds i true).getD k false=true↔(listed.getD k false=true\/k=i):=by
   intro k;simp only [Array.getD_eq_getD_getElem?,Array.getElem?_setIfInBounds];by_cases e:i=k
   · subst e; simp [show i<listed.size from by omega]
   · have:¬ k=i:=fun q=>e q.symm;simp [e,this]
  refine JL hC D M h1 (by rw [h2]; simp) (fun j hj=>?_) hget fun a' w' ρ' hS' eS' M'=>ih _ a' w' ρ' hS' eS' (by simpa using hsz) M' ?_
  · obtain ⟨e,he,hb,hj⟩:=D.pto i o h3 j hj;have:=h4 e he hb;rcases hj with rfl | hj
    · exact this
    · exact M.down e.on j (by have:=D.plt _ _ (D.pin i o h3 e he hb); omega) this hj
  · have:=uz (p:=fun k=>!listed.getD k false) (q:=fun k=>!(listed.setIfInBounds i true).getD k false) (x:=i) (fun y hy=>by
     simp only [Bool.not_eq_true'] at hy ⊢;cases hq:listed.getD y false with
     | false=>rfl
     | true=>rw [(hget y).2 (.inl hq)] at hy; cases hy) (by simp [h2]) (by simp [(hget i).2 (.inr rfl)]) (List.mem_range.2 h1)
    omega
end
end
section
open Go.RowKit
theorem KY {B:Nat}{ρ:Rh}{h h':Hp}{w:World}(hR:Rel B ρ h w)(hle:h.bs.length<=h'.bs.length)(hs:∀ b,b<h.bs.length->h'.bs[b]?=h.bs[b]?)(hd:∀ b,h.bs.length<=b->b<h'.bs.length->h'.bs[b]?=some (.cells [])):Rel B ρ h' w:=by
 have key:∀ i (hi:i<h'.bs.length),(∃ hi':i<h.bs.length,h'.bs[i]=h.bs[i])\/h'.bs[i]=.cells []:=by
  intro i hi;rcases ck i h.bs.length with q | q
  · have:=hs i q;rw [ac hi,ac q] at this;exact .inl ⟨q,cn this⟩
  · have:=hd i q hi;rw [ac hi] at this;exact .inr (cn this)
 refine ⟨fun i hi=>cb (hR.dom i hi) hle,hR.ln,fun i hi hl=>?_,hR.lo,hR.base,hR.inj,fun i hi=>?_,hR.xB,fun c hc=>⟨(hR.gB c hc).1,cb (hR.gB c hc).2 hle⟩⟩
 · rcases key i hi with ⟨q,e⟩ | e
   · exact hR.live i q (by rw [← e]; exact hl)
   · rw [e] at hl; simp [Blk.live] at hl
 · rcases key i hi with ⟨q,e⟩ | e
   · rw [e]; exact hR.mem i q
   · rw [e]; simp only [BR]
theorem Ky {P:Program}(hmix:P.follows .mixedOrders=true){C:Calls'}(hC:aQ P C):yK P C:=by
 intro B id ops os e h ρ w a e' h' Q hos hdr ho hR hE hQ;refine wp_region_any hmix ?_;show wpAny P .any ops Q ops.size (Array.replicate ops.size false) a w.drew;have hR:Rel B ρ h w.drew:=hR.same rfl;have hE':ER ρ w.drew e a.tmps:=hE.ext (Goes.drew (B:=B) w).ext;obtain ⟨hlen,hcomp⟩:=mapM_some hos;have hlen':os.length=ops.size:=by simpa using hlen
 unfold vU at hdr;simp only [aq] at hdr;obtain ⟨hd1,hd2⟩:=hdr;have hord:∀ i o,ops[i]?=some o->∀ e∈o.after,Region.binds .any e=true->e.on<i:=by
  intro i o hio x hx hb;have:=ch.1 hd1 (o,i) (List.mem_zipIdx_iff_getElem?.2 (by simpa using hio));have:=ch.1 this x (by simpa using hx);simpa [hb] using this
 have hx:∃ l,mG C os e h=some (l,e',h')/\sI (dO ops) l=true:=by
  unfold wG at ho;split at ho
  · rename_i l e1 h1 hrun;split at ho
    · rename_i hap;cases ho;exact ⟨l,hrun,hap⟩
    · cases ho
  · cases ho
 obtain ⟨l,hrun,hap⟩:=hx;obtain ⟨E,H,rfl,rfl,rfl,rfl,hll,hsteps⟩:=BQ hrun
 let S:Nat->Stp:=fun k=>(l[k]?).getD ⟨H 0,.undef,H 0,av (H 0)⟩
 have hS:∀ k (hk:k<os.length),l[k]?=some (S k)/\stepD C os[k] (E k) (H k)=some (S k)/\E (k+1)=iB (E k) os[k].d (S k).v/\H (k+1)=(S k).h':=by
  intro k hk;obtain ⟨s,p1,p2,p3,p4⟩:=hsteps k hk;have:S k=s:=by simp only [S,p1]; rfl
  rw [this]; exact ⟨p1,p2,p3,p4⟩
 have hco:∀ k (hk:k<os.length) o,ops[k]?=some o->ut P ops o=some os[k]:=by
  intro k hk o hko;obtain ⟨q1,q2⟩:=Array.getElem?_eq_some_iff.1 hko;have:=hcomp k (by simpa using q1) hk;simpa [q2] using this
 have hst:∀ k,k<=os.length->Stands (E k) (H k):=by
  intro k
  induction k with
  | zero=>intro _; exact ⟨B,ρ,w.drew,a.tmps,hR,hE'⟩
  | succ k ih =>
   intro hk;obtain ⟨_,p2,p3,p4⟩:=hS k (by omega);have hlt:k<ops.size:=by omega
   rw [p3,p4];exact (ih (by omega)).stepD hC (hco k (by omega) _ (Array.getElem?_eq_getElem hlt)) p2
 have D:Drw P C ops os (fun i j=>j∈(dO ops).getD i []) E H S:=by
  refine ⟨hlen',hco,fun k hk=>(hS k hk).2,hst,fun k j hj=>BB hord (k+1) k (by omega) j hj,fun k o hko j hj=>(sZ hord hko).1 hj,fun k o hko x hx hb=>(sZ hord hko).2 ⟨x,hx,hb,.inl rfl⟩,fun i j hi hj hne n1 n2=>?_,fun i j hi hj d hd=>?_⟩
  · have:=ch.1 hap i (List.mem_range.2 (by omega));have:=ch.1 this j (List.mem_range.2 (by omega));rw [(hS i hi).1,(hS j hj).1] at this;have c1:((dO ops).getD i []).contains j=false:=by
     cases hq:((dO ops).getD i []).contains j with
     | false=>rfl
     | true=>exact absurd (by simpa using hq) n1
    have c2:((dO ops).getD j []).contains i=false:=by
     cases hq:((dO ops).getD j []).contains i with
     | false=>rfl
     | true=>exact absurd (by simpa using hq) n2
    rw [c1,c2] at this;simpa [hne] using this
  · have:=ch.1 hd2 i (List.mem_range.2 hi);have:=ch.1 this j (List.mem_range.2 hj);rw [ac hi,ac hj] at this;simp only [hd,aq] at this;obtain ⟨t1,t2⟩:=this;refine ⟨fun hne=>?_,fun hsee=>?_⟩
    · rcases Bool.or_eq_true_iff.1 t1 with q | q
      · exact absurd (by simpa using q) hne
      · simpa using q
    · rcases Bool.or_eq_true_iff.1 t2 with q | q
      · rcases Bool.or_eq_true_iff.1 q with q | q
        · have hcon:(uG os[i]).contains d=true:=by simpa using hsee
          rw [hcon] at q; cases q
        · simp only [aq] at q;exact .inl (by simpa using q.2)
      · simp only [aq] at q;exact .inr (by simpa using q.2)
 have hT:=D.le hC (k:=0) (j:=os.length) (by omega) (by omega)
 let hS0:Hp:=⟨(List.range (H os.length).bs.length).map fun b=>(H 0).bs.getD b (.cells []),0⟩
 have hl0:hS0.bs.length=(H os.length).bs.length:=by simp [hS0]
 have hg0:∀ b,b<(H os.length).bs.length->hS0.bs[b]?=some ((H 0).bs.getD b (.cells [])):=fun b hb=>by
  simp only [hS0,List.getElem?_map,List.getElem?_range hb,Option.map_some]
 have hR0:Rel B ρ hS0 w.drew:=KY hR (by omega) (fun b hb=>by rw [hg0 b (by omega),getD_some hb]) fun b hb hb2=>by
  rw [hg0 b (by omega),bo,bb hb]; rfl
 have hf:∀ k,¬ (Array.replicate ops.size false).getD k false=true:=fun k=>by
  simp only [Array.getD_eq_getD_getElem?,Array.getElem?_replicate];split<;>simp
 have M:Mid P C os (fun i j=>j∈(dO ops).getD i []) E H B ρ w.drew a (fun k=>(Array.replicate ops.size false).getD k false=true) a w.drew ρ hS0 (E 0):=by
  refine ⟨hR0,Goes.refl _ _ _,hE',rfl,hl0,rfl,fun k j hk hlk _=>absurd hlk (hf k),fun t j hj ha _=>?_,fun b j hj ha _=>?_,fun b hb=>.inl (hR.dom b hb),fun b hb=>(hR.gB b hb).2⟩
  · have:∀ d,d<=j->(E d).getD t .undef=(E 0).getD t .undef:=by
     intro d
     induction d with
     | zero=>intro _; rfl
     | succ d ih =>
      intro hd;rw [← ih (by omega),(D.step d (by omega)).2.1];exact wY fun q=>hf d (ha d (by omega) ⟨os[d],ac (by omega),q⟩)
    exact (this j (bp _)).symm
  · have:∀ d,d<=j->(H d).bs[b]?=(H 0).bs[b]?:=by
     intro d
     induction d with
     | zero=>intro _; rfl
     | succ d ih =>
      intro hd;rw [← ih (by omega)];exact Classical.byContradiction fun q=>hf d (ha d (by omega) q)
    rw [uP (this j (bp _))];rcases ck b (H os.length).bs.length with q | q
    · have:=hg0 b q;rw [bo,this]; rfl
    · simp only [bo];rw [bb (by omega),bb (by omega)]
 refine NT hC D (fun lst a' w' ρ' hS' eS' hall M'=>?_) ops.size (Array.replicate ops.size false) a w.drew ρ hS0 (E 0) (by simp [hlen']) M ?_
 · have hb:hS'.bs=(H os.length).bs:=List.ext_getElem? fun b=>by
    have:=M'.mem b os.length (bp _) (fun k hk _=>hall k hk) fun k h1 h2=>by omega
    rcases ck b (H os.length).bs.length with q | q
    · rw [getD_some (l:=hS'.bs) (by rw [M'.len]; exact q),getD_some q,this]
    · rw [bb q,bb (by rw [M'.len]; exact q)]
   refine hQ a' w' ⟨ρ',M'.rel.bs hb.symm,(Goes.drew w).trans M'.goes,⟨?_,fun i=>?_⟩,M'.defers⟩
   · rw [D.elen os.length (bp _),← M'.elen]; exact M'.er.1
   · rw [← M'.env i os.length (bp _) (fun k hk _=>hall k hk) fun k h1 h2=>by omega];exact M'.er.2 i
 · rw [← hlen'];exact ce (List.length_filter_le _ _) (by simp)
theorem reads {P:Program}(hmix:P.follows .mixedOrders=true){E:Calls'}(hE:aQ P E){F:FuncId->Option RF}(val:FuncId->Bool)(hT:Eg P F)(k:Nat):aQ P (xL E F val k) :=
 JF hE val hT (fun _ hC=>Ky hmix hC) k
end
section
theorem CU {P:Program}:∀ (c:Code) {rc:RC},comp P c=some rc->rc.strip=rc:=by
 intro c
 induction c with
 | scope b ih=>intro rc h; exact ih h
 | region id ops draw =>
  intro rc h;simp only [comp] at h;replace h:=ah h; obtain ⟨os,hos,h⟩:=h;split at h
  · split at h
    · cases h; rfl
    · cases h
  · cases h; rfl
 | seq x y ihx ihy =>
  intro rc h;simp only [comp] at h;replace h:=ah h; obtain ⟨a,ha,h⟩:=h;replace h:=ah h; obtain ⟨b,hb,h⟩:=h;cases h;simp only [RC.strip,ihx ha,ihy hb]
 | cond x t f iht ihf =>
  intro rc h;simp only [comp] at h;replace h:=ah h; obtain ⟨x',hx,h⟩:=h;replace h:=ah h; obtain ⟨a,ha,h⟩:=h;replace h:=ah h; obtain ⟨b,hb,h⟩:=h;cases h;simp only [RC.strip,iht ha,ihf hb]
 | block i b ih =>
  intro rc h;simp only [comp] at h;replace h:=ah h; obtain ⟨a,ha,h⟩:=h;cases h;simp only [RC.strip,ih ha]
 | loop b ih =>
  intro rc h;simp only [comp] at h;replace h:=ah h; obtain ⟨a,ha,h⟩:=h;cases h;simp only [RC.strip,ih ha]
 | skip=>intro rc h; simp [comp] at h; subst h; rfl
 | label l=>intro rc h; simp [comp] at h; subst h; rfl
 | ret=>intro rc h; simp [comp] at h; subst h; rfl
 | exit i=>intro rc h; simp [comp] at h; subst h; rfl
 | goto l=>intro rc h; simp [comp] at h
 | refuse s=>intro rc h; simp [comp] at h
 | rangeFunc f ps x y=>intro rc h; simp [comp] at h
theorem Qv (P:Program):Eg P (Du P):=by
 intro f rf h;unfold Du at h;replace h:=ah h; obtain ⟨fn,hf,h⟩:=h;replace h:=ah h; obtain ⟨b,hb,h⟩:=h;replace h:=ah h; obtain ⟨c,hc,h⟩:=h;replace h:=ah h; obtain ⟨res,hr,h⟩:=h;split at h
 · cases h
 · rename_i hn;cases h;exact ⟨fn,b,hf,hb,by rw [CU b hc]; exact hc,rfl,hr,hn⟩
end
section
inductive QC where
 | skip
 | ret (keep:List Nat)
 | exit (i:Nat) (keep:List Nat)
 | reg (pr:Option (List (List Nat))) (os:List RO)
 | seq (a b:QC)
 | cond (c:X) (a b:QC)
 | block (i:Nat) (b:QC)
 | loop (keep:List Nat) (b:QC)
structure QF where
 ntmps:Nat
 res:List RV
 code:QC
abbrev EA:=List (Nat×V)
def EA.get:EA->Nat->V
 | [],_=>.undef
 | (j,v)::l,i=>if j=i then v else EA.get l i
def X.ea (a:EA):X->V
 | .t i=>a.get i
 | .c v=>v
def cz (e:EA)(d:Option Nat)(v:V):EA :=
 match d with
 | some i=>(i,v)::e
 | none=>e
def bU (l:List Nat)(e:EA):EA:=l.map fun i=>(i,e.get i)
def okV:V->Bool
 | .undef=>false
 | _=>true
def nu:V->Option V
 | .undef=>none
 | v=>some v
def aH (ev:X->V):List V->List (Nat×Nat×X)->Option (List V)
 | cs,[]=>some cs
 | cs,(o,n,x)::ps=>match (ev x).cells with
  | some xs=>if xs.length=n then (match put cs o xs with | some cs'=>aH ev cs' ps | none=>none) else none
  | none=>none
def cZ (ev:X->V)(x:Option X)(dft:Nat):Option Nat :=
 match x with
 | none=>some dft
 | some x=>match ev x with
  | .d (.int _ n)=>if 0<=n then some n.toNat else none
  | _=>none
def bP (hp:Hp)(ev:X->V)(k:SK)(z:Nat)(x:V)(lo hi mx:Option X):Option V :=
 match k,x with
 | .sl,.d (.slice nl es)=>match cZ ev lo 0,cZ ev hi es.length,mx with
  | some l,some h,none=>if l<=h/\h<=es.length/\(es.headD (List.replicate z .nilp)).length=z then some (.d (.slice nl ((es.take h).drop l))) else none
  | _,_,_=>none
 | .sl,.row b o len cap z'=>match cZ ev lo 0,cZ ev hi len,mx with
  | some l,some h,none =>
   if l<=h/\h<=len/\z'=z then
    (if l=0 then some (.row b o h cap z)
    else if l<len then some (.row b (o+l * z) (h-l) (cap.map (· - l)) z)
    else some (.d (.slice false [])))
   else none
  | some l,some h,some m=>match cZ ev (some m) 0 with
   | some m=>if l<=h/\h<=m/\m<=len/\z'=z/\(l=0\/l<m)/\hi.isSome=true then some (.row b (o+l * z) (h-l) (some (m-l)) z) else none
   | none=>none
  | _,_,_=>none
 | .st,.d (.str s)=>match cZ ev lo 0,cZ ev hi s.size,mx with
  | some l,some h,none=>if l<=h/\h<=s.size then some (.d (.str (s.extract l h))) else none
  | _,_,_=>none
 | .ar n,.ptr b o=>match cZ ev lo 0,cZ ev hi n,mx with
  | some l,some h,none=>if l<=h/\h<=n/\l<n/\0<n * z then match hp.get b with
   | some cs=>if o+n * z<=cs.length/\n<=2 ^ 40 then some (.row b (o+l * z) (h-l) (some (n-l)) z) else none
   | none=>none
   else none
  | _,_,_=>none
 | _,_=>none
def opE (C:Calls')(r:R)(ev:X->V)(h:Hp):Option (V×Hp) :=
 match r with
 | .mov x=>(nu (ev x)).map (·,h)
 | .pick c a b=>match ev c with
  | .d (.bool t)=>(nu (if t then ev a else ev b)).map (·,h)
  | _=>none
 | .new z=>some (.ptr h.size 0,h.alloc z)
 | .box x=>match (ev x).cells with
  | some cs=>some (.ptr h.size 0,h.alloc cs)
  | none=>none
 | .build zero ps=>match aH ev zero ps with
  | some cs=>some (.agg cs,h)
  | none=>none
 | .buildS z n zero ps=>match aH ev (List.replicate n zero).flatten ps with
  | some cs=>some (.row h.size 0 n (some n) z,h.alloc cs)
  | none=>none
 | .load sc n a=>match loadAt h (ev a) n with
  | some cs=>(mk sc cs).map (·,h)
  | none=>none
 | .store n a x=>match (ev x).cells with
  | some xs=>if xs.length=n/\0<n then (storeAt h (ev a) xs).map (.undef,·) else none
  | none=>none
 | .nilchk x=>match ev x with
  | .ptr b o=>some (.ptr b o,h)
  | .eptr cs o=>some (.eptr cs o,h)
  | .fn f cs=>some (.fn f cs,h)
  | .mfn f cs=>some (.mfn f cs,h)
  | _=>none
 | .bin op x y=>one (bV op (ev x) (ev y)) h
 | .eq k neg x y=>match iH k (ev x) (ev y) with
  | some b=>some (.d (.bool (b != neg)),h)
  | none=>none
 | .un op x=>one (unD op (ev x)) h
 | .convI k x=>match ev x with
  | .d (.int _ n)=>some (.d (.int k (k.wrap n)),h)
  | _=>none
 | .convBS x=>match ev x with
  | .d (.str _)=>none
  | v=>match aD h v 1 with
   | some (_,cs)=>match cs.mapM (fun v=>match v with | .d (.int .u8 n)=>some (UInt8.ofNat n.toNat) | _=>none) with
    | some l=>some (.d (.str ⟨l.toArray⟩),h)
    | none=>none
   | none=>none
 | .convSB x=>match ev x with
  | .d (.str s)=>if s.size<=2 ^ 40 then some (.row h.size 0 s.size none 1,h.alloc (s.toList.map fun b=>.d (.int .u8 b.toNat))) else none
  | _=>none
 | .convSS x=>match ev x with
  | .d (.str s)=>some (.d (.str s),h)
  | _=>none
 | .fldA x off=>match ev x with
  | .ptr b o=>some (.ptr b (o+off),h)
  | .eptr cs o=>some (.eptr cs (o+off),h)
  | _=>none
 | .fld sc x off n=>match ev x with
  | .agg cs=>match sub cs off n with
   | some l=>(mk sc l).map (·,h)
   | none=>none
  | _=>none
 | .idxA arr z x i=>match ev i,arr,ev x with
  | .d (.int _ i),none,.d (.slice _ es)=>if 0<=i then (match es[i.toNat]? with | some c=>if c.length=z then some (.eptr c 0,h) else none | none=>none) else none
  | .d (.int _ i),none,.row b o len _ z'=>if 0<=i/\i<len/\z'=z then some (.ptr b (o+i.toNat * z),h) else none
  | .d (.int _ i),some n,.ptr b o=>if 0<=i/\i<n then some (.ptr b (o+i.toNat * z),h) else none
  | .d (.int _ i),some n,.eptr cs o=>if 0<=i/\i<n then some (.eptr cs (o+i.toNat * z),h) else none
  | _,_,_=>none
 | .idx sc n z x i=>match ev i,ev x with
  | .d (.int _ i),.agg cs=>if 0<=i/\i<n then (match sub cs (i.toNat * z) z with | some l=>(mk sc l).map (·,h) | none=>none) else none
  | _,_=>none
 | .idxS x i=>match ev i,ev x with
  | .d (.int _ i),.d (.str s)=>if 0<=i then (match s.toList[i.toNat]? with | some b=>some (.d (.int .u8 b.toNat),h) | none=>none) else none
  | _,_=>none
 | .slc k z x lo hi mx=>(bP h ev k z (ev x) lo hi mx).map (·,h)
 | .mkfn f caps=>if caps.all (fun x=>okV (ev x))=true then some (.fn f (caps.map ev),h) else none
 | .mkmv f caps=>if caps.all (fun x=>okV (ev x))=true then some (.mfn f (caps.map ev),h) else none
 | .mksl z bytes zero len cap=>match ev len,ev cap with
  | .d (.int .i64 l),.d (.int .i64 c)=>if 0<=l/\l<=c/\c<=2 ^ 30/\bytes<=2 ^ 12 then some (.row h.size 0 l.toNat (some c.toNat) z,h.alloc (List.replicate c.toNat zero).flatten) else none
  | _,_=>none
 | .ext x i=>match ev x with
  | .tup vs=>vs[i]?.map (·,h)
  | _=>none
 | .call f args=>if args.all (fun x=>okV (ev x))=true then iJ C (ev f) (args.map ev) h else none
 | .app z bytes s x=>match aD h (ev x) z with
  | some (m,xs)=>aF h z bytes (ev s) m xs
  | none=>none
 | .len st x=>match (ev x).len st with
  | some n=>some (.d (.int .i64 n),h)
  | none=>none
 | .copy z a b=>match aD h (ev b) z,ev a with
  | some (m,xs),.row b o len _ z'=>if z'=z then (match h.get b with
   | some cs=>if min m len * z=0 then some (.d (.int .i64 (min m len:Nat)),h) else (match put cs o (xs.take (min m len * z)) with | some cs'=>some (.d (.int .i64 (min m len:Nat)),h.set b cs') | none=>none)
   | none=>none) else none
  | _,_=>none
 | .clear z zero a=>match ev a with
  | .row b o len _ z'=>if z'=z then (match h.get b with
   | some cs=>if len * z=0 then some (.undef,h) else (match put cs o (List.replicate len zero).flatten with | some cs'=>some (.undef,h.set b cs') | none=>none)
   | none=>none) else none
  | .d (.slice _ [])=>some (.undef,h)
  | _=>none
 | .minmax mx xs=>if xs.all (fun x=>okV (ev x))=true then match xs.map ev with
  | []=>none
  | v::vs=>match ig mx v vs with
   | some v=>some (v,h)
   | none=>none
  else none
 | .range x=>match ev x with
  | .d (.str s)=>some (.ptr h.size 0,{ h with bs:=h.bs++[.iter s 0] })
  | _=>none
 | .next x=>match ev x with
  | .ptr b 0=>match h.bs[b]? with
   | some (.iter s pos) =>
    if pos<s.size then
     let (c,w):=Utf8.decode s pos
     some (.tup [.d (.bool true),.d (.int .i64 pos),.d (.int .i32 c)],⟨h.bs.set b (.iter s (pos+w)),min h.low b⟩)
    else some (.tup [.d (.bool false)],h)
   | _=>none
  | _=>none
def Bj (ev:X->V):R->List Nat
 | .load _ _ a | .convBS a=>(ev a).blk
 | .store _ a _=>(ev a).blk
 | .app _ _ s x=>(ev s).blk++(ev x).blk
 | .copy _ a b=>(ev a).blk++(ev b).blk
 | .clear _ _ a=>(ev a).blk
 | .next x=>(ev x).blk
 | .slc _ _ x _ _ _=>(ev x).blk
 | _=>[]
def xn (ev:X->V):R->List Nat
 | .store _ a _=>(ev a).blk
 | .app _ _ s _=>(ev s).blk
 | .copy _ a _=>(ev a).blk
 | .clear _ _ a=>(ev a).blk
 | .next x=>(ev x).blk
 | _=>[]
def dh (C:Calls')(r:R)(ev:X->V)(h:Hp):Option (V×Hp×Tr) :=
 match r with
 | .call f args=>if args.all (fun x=>okV (ev x))=true then match iJ C (ev f) (args.map ev) ⟨h.bs,h.bs.length⟩ with
  | some (v,h')=>if h.bs.length<=h'.low then
   (if h'.bs.length=h.bs.length then some (v,h,⟨true,false,[],[],h.bs.length,h.bs.length,0⟩)
   else some (v,⟨h'.bs,h.low⟩,⟨true,false,[],[],h.bs.length,h'.bs.length,0⟩))
   else some (v,⟨h'.bs,min h.low h'.low⟩,⟨true,true,[],[],h.bs.length,h'.bs.length,⟨h'.low,uD h.bs h'.bs⟩⟩)
  | none=>none
  else none
 | r=>match opE C r ev h with
  | some (v,h')=>some (v,h',⟨false,false,Bj ev r,xn ev r,h.bs.length,h'.bs.length,0⟩)
  | none=>none
def gY (C:Calls'):List RO->EA->Hp->Option (EA×Hp)
 | [],e,h=>some (e,h)
 | o::os,e,h =>
  match o.g with
  | none=>match opE C o.r (X.ea e) h with
   | some (v,h')=>gY C os (cz e o.d v) h'
   | none=>none
  | some (j,want)=>match e.get j with
   | .d (.bool t) =>
    if t=want then (match opE C o.r (X.ea e) h with
     | some (v,h')=>gY C os (cz e o.d v) h'
     | none=>none)
    else gY C os (cz e o.d (.tup [])) h
   | .tup []=>gY C os (cz e o.d (.tup [])) h
   | _=>none
def gq (C:Calls'):List RO->EA->Hp->Option (List Tr×EA×Hp)
 | [],e,h=>some ([],e,h)
 | o::os,e,h =>
  match o.g with
  | none=>match dh C o.r (X.ea e) h with
   | some (v,h',t)=>match gq C os (cz e o.d v) h' with
    | some (l,e',h'')=>some (t::l,e',h'')
    | none=>none
   | none=>none
  | some (j,want)=>match e.get j with
   | .d (.bool t) =>
    if t=want then (match dh C o.r (X.ea e) h with
     | some (v,h',t)=>match gq C os (cz e o.d v) h' with
      | some (l,e',h'')=>some (t::l,e',h'')
      | none=>none
     | none=>none)
    else (match gq C os (cz e o.d (.tup [])) h with
     | some (l,e',h'')=>some (av h::l,e',h'')
     | none=>none)
   | .tup []=>match gq C os (cz e o.d (.tup [])) h with
    | some (l,e',h'')=>some (av h::l,e',h'')
    | none=>none
   | _=>none
def aT (pr:List (List Nat))(l:List Tr):Bool :=
 (List.range l.length).all fun i=>(List.range l.length).all fun j =>
  i==j||(pr.getD i []).contains j||(pr.getD j []).contains i ||
  match l[i]?,l[j]? with
  | some s,some t=>s.spares t
  | _,_=>false
def ai (C:Calls')(pr:List (List Nat))(os:List RO)(e:EA)(h:Hp):Option (EA×Hp) :=
 match gq C os e h with
 | some (l,e',h')=>if aT pr l=true then some (e',h') else none
 | none=>none
abbrev fZ:=Option (Ex×EA×Hp)
def dM (o:fZ)(k:EA->Hp->fZ):fZ :=
 match o with
 | some (.normal,e,h)=>k e h
 | r=>r
def leave (i:Nat)(o:fZ):fZ :=
 match o with
 | some (.exit j,e,h)=>if j=i then some (.normal,e,h) else some (.exit j,e,h)
 | r=>r
def lead (o:Option (EA×Hp)):fZ :=
 match o with
 | some (e,h)=>some (.normal,e,h)
 | none=>none
def fork (v:V)(a b:fZ):fZ :=
 match v with
 | .d (.bool true)=>a
 | .d (.bool false)=>b
 | _=>none
def aW (C:Calls'):Nat->QC->EA->Hp->fZ
 | 0,_,_,_=>none
 | n+1,c,e,h=>match c with
  | .skip=>some (.normal,e,h)
  | .ret keep=>some (.ret,bU keep e,h)
  | .exit i keep=>some (.exit i,bU keep e,h)
  | .reg none os=>lead (gY C os e h)
  | .reg (some pr) os=>lead (ai C pr os e h)
  | .seq a b=>dM (aW C n a e h) fun e h=>aW C n b e h
  | .cond c a b=>fork (c.ea e) (aW C n a e h) (aW C n b e h)
  | .block i b=>leave i (aW C n b e h)
  | .loop keep b=>dM (aW C n b (bU keep e) h) fun e h=>aW C n (.loop keep b) e h
def mP (h:Hp)(e:EA):List RV->Option (List V)
 | []=>some []
 | .tmp t::l=>match nu (e.get t),mP h e l with
  | some v,some vs=>some (v::vs)
  | _,_=>none
 | .cell t sc n::l=>match loadAt h (e.get t) n with
  | some cs=>match mk sc cs,mP h e l with
   | some v,some vs=>some (v::vs)
   | _,_=>none
  | none=>none
def jP:Nat->List V->EA
 | _,[]=>[]
 | i,v::l=>(i,v)::jP (i+1) l
def done (q:QF)(o:fZ):Option (V×Hp) :=
 match o with
 | some (.normal,e,h) | some (.ret,e,h)=>match mP h e q.res with
  | some vs=>some (bG vs,h)
  | none=>none
 | _=>none
def jQ (C:Calls')(n:Nat)(q:QF)(args:List V)(h:Hp):Option (V×Hp):=done q (aW C n q.code (jP 0 args) h)
def pu (args:List V)(h:Hp)(as:Option (List V))(body:List V->Option (V×Hp)):Option (V×Hp) :=
 match as with
 | none=>none
 | some as=>match body as with
  | none=>none
  | some (r,h')=>match frz h' r with
   | none=>none
   | some r'=>if args.all iE=true\/ownR h' r=true then some (r',h) else none
def dU (h:Hp)(o:Option (V×Hp)):Option (V×Hp) :=
 match o with
 | none=>none
 | some (r,h')=>if h.bs.length<=h'.low/\r.under h.bs.length=true then some (r,h) else some (r,⟨h'.bs,min h.low h'.low⟩)
def eF (E:Calls')(T:FuncId->Option QF)(val:FuncId->Bool):Nat->Calls'
 | 0=>fun _ _ _=>none
 | k+1=>fun f args h=>match T f with
  | none=>E f args h
  | some q=>if val f=true then pu args h (args.mapM (frz h)) fun as=>jQ (eF E T val k) k q as ⟨[],0⟩
   else dU h (jQ (eF E T val k) k q args ⟨h.bs,h.bs.length⟩)
def R.isCall:R->Bool
 | .call _ _=>true
 | _=>false
def R.reads:R->Bool
 | .load _ _ _ | .convBS _ | .store _ _ _ | .app _ _ _ _ | .copy _ _ _ | .clear _ _ _ | .next _=>true
 | .slc _ _ _ _ _ _=>true
 | _=>false
def R.lays:R->Bool
 | .new _ | .box _ | .buildS _ _ _ _ | .convSB _ | .mksl _ _ _ _ _ | .range _=>true
 | _=>false
def R.writes:R->Bool
 | .store _ _ _ | .app _ _ _ _ | .copy _ _ _ | .clear _ _ _ | .next _=>true
 | _=>false
def R.free (r:R):Bool:=!r.reads&&!r.lays&&!r.writes
def R.still (r:R):Bool:=!r.lays&&!r.writes
def Dk (a b:R):Bool:=a.free||b.free||(a.still&&b.still)||(a.lays&&b.lays)
def Ej (pr:List (List Nat))(os:List RO):Bool :=
 os.all (fun o=>!o.r.isCall)&&(List.range os.length).all fun i=>(List.range os.length).all fun j=>i==j||(pr.getD i []).contains j||(pr.getD j []).contains i ||
  match os[i]?,os[j]? with
  | some a,some b=>Dk a.r b.r
  | _,_=>false
def RC.quiet:RC->RC
 | .reg (some pr) os=>if Ej pr os=true then .reg none os else .reg (some pr) os
 | .seq a b=>.seq a.quiet b.quiet
 | .cond c a b=>.cond c a.quiet b.quiet
 | .block i b=>.block i b.quiet
 | .loop d b=>.loop d b.quiet
 | c=>c
def QC.toRC:QC->RC
 | .skip=>.skip
 | .ret _=>.ret
 | .exit i _=>.exit i
 | .reg pr os=>.reg pr os
 | .seq a b=>.seq a.toRC b.toRC
 | .cond c a b=>.cond c a.toRC b.toRC
 | .block i b=>.block i b.toRC
 | .loop _ b=>.loop [] b.toRC
def QF.toRF (q:QF):RF:=⟨q.ntmps,q.res,q.code.toRC⟩
def RF.quiet (rf:RF):RF:=⟨rf.ntmps,rf.res,rf.code.quiet⟩
def X.fits (n:Nat):X->Bool
 | .t i=>i<n
 | .c _=>true
def RO.fits (n:Nat)(o:RO):Bool:=(match o.d with | some d=>decide (d<n) | none=>true)&&(match o.g with | some (j,_)=>decide (j<n) | none=>true)&&o.r.xs.all (X.fits n)
def QC.fits (n:Nat):QC->Bool
 | .reg _ os=>os.all (RO.fits n)
 | .seq a b=>a.fits n&&b.fits n
 | .cond c a b=>c.fits n&&a.fits n&&b.fits n
 | .block _ b=>b.fits n
 | .loop _ b=>b.fits n
 | _=>true
def RV.slot:RV->Nat
 | .tmp t=>t
 | .cell t _ _=>t
def QF.fits (q:QF):Bool:=q.code.fits q.ntmps&&q.res.all fun v=>decide (v.slot<q.ntmps)
def uni (a b:List Nat):List Nat:=b.foldl (fun l x=>if l.contains x then l else x::l) a
def Vj:X->List Nat
 | .t i=>[i]
 | .c _=>[]
def TN (o:RO)(after:List Nat):List Nat :=
 uni (match o.d with | some d=>after.filter (fun x=>!(x==d)) | none=>after) (uG o)
def Nb:List (Nat×List Nat)->Nat->List Nat
 | [],_=>[]
 | (j,l)::ex,i=>if j==i then l else Nb ex i
def live (ret:List Nat):RC->List (Nat×List Nat)->List Nat->List Nat
 | .skip,_,a=>a
 | .ret,_,_=>ret
 | .exit i,ex,_=>Nb ex i
 | .reg _ os,_,a=>os.foldr TN a
 | .seq x y,ex,a=>live ret x ex (live ret y ex a)
 | .cond c x y,ex,a=>uni (uni (live ret x ex a) (live ret y ex a)) (Vj c)
 | .block i b,ex,a=>live ret b ((i,a)::ex) a
 | .loop _ b,ex,_=>live ret b ex (live ret b ex (live ret b ex []))
end
section
theorem zh {v w:V}(h:nu v=some w):v=w/\v≠.undef:=by
 cases v<;>simp [nu] at h<;>exact ⟨h,by simp⟩
theorem OH {v:V}(h:okV v=true):v≠.undef:=by
 intro hv; subst hv; cases h
theorem qH {l:List X}{ev ev':X->V}(hx:∀ x∈l,ev x=.undef\/ev x=ev' x)(h:l.all (fun x=>okV (ev x))=true):l.map ev=l.map ev':=by
 apply List.map_congr_left;intro x hm;rcases hx x hm with h1 | h1
 · exact absurd h1 (OH (ch.1 h x hm))
 · exact h1
theorem sO {ev:X->V}{e:Env}:∀ {ps:List (Nat×Nat×X)} {cs r:List V},(∀ p∈ps,ev p.2.2=.undef\/ev p.2.2=p.2.2.ev e)->aH ev cs ps=some r->fills e cs ps=some r
 | [],cs,r,_,h=>h
 | (o,n,x)::ps,cs,r,hx,h=>by
  simp only [aH] at h;simp only [fills];rcases hx (o,n,x) (by simp) with h1 | h1
  · simp only at h1;simp [h1,V.cells] at h
  · simp only at h1;rw [h1] at h;cases hc:(x.ev e).cells with
    | none=>simp [hc] at h
    | some xs =>
     simp only [hc] at h ⊢;split at h
     · rename_i hl;rw [if_pos hl];cases hp:put cs o xs with
       | none=>simp [hp] at h
       | some cs' =>
        simp only [hp] at h ⊢;exact sO (fun p hp=>hx p (List.mem_cons_of_mem _ hp)) h
     · cases h
theorem sK {ev:X->V}{e:Env}{x:Option X}{dft n:Nat}(hx:∀ y∈x.toList,ev y=.undef\/ev y=y.ev e)(h:cZ ev x dft=some n):bound e x dft=some n:=by
 cases x with
 | none=>exact h
 | some x =>
  rcases hx x (by simp) with h1 | h1
  · simp [cZ,h1] at h
  · simp only [cZ,h1] at h; exact h
theorem Gy {hp:Hp}{ev:X->V}{e:Env}{k:SK}{z:Nat}{x:V}{lo hi mx:Option X}{r:V}(hx:∀ y∈lo.toList++hi.toList++mx.toList,ev y=.undef\/ev y=y.ev e)
 (h:bP hp ev k z x lo hi mx=some r):dR hp e k z x lo hi mx=some r:=by
 have hlo:∀ {d n},cZ ev lo d=some n->bound e lo d=some n:=fun h=>sK (fun y hy=>hx y (by simp [hy])) h;have hhi:∀ {d n},cZ ev hi d=some n->bound e hi d=some n:=fun h=>sK (fun y hy=>hx y (by simp [hy])) h;have hmx:∀ {m:X} {d n},mx=some m->cZ ev (some m) d=some n->bound e (some m) d=some n:=fun q h=>sK (fun y hy=>hx y (by simp at hy; simp [q,hy])) h;unfold bP at h;unfold dR;split at h<;>try dsimp only at h ⊢
 · split at h
   · rename_i _ _ e1 e2;rw [hlo e1,hhi e2]; exact h
   · cases h
 · split at h
   · rename_i _ _ e1 e2;rw [hlo e1,hhi e2]; exact h
   · rename_i _ _ _ e1 e2;split at h
     · rename_i e3;rw [hlo e1,hhi e2]; simp only [hmx rfl e3]; exact h
     · cases h
   · cases h
 · split at h
   · rename_i _ _ e1 e2;rw [hlo e1,hhi e2]; exact h
   · cases h
 · split at h
   · rename_i _ _ e1 e2;rw [hlo e1,hhi e2]; exact h
   · cases h
 · cases h
theorem Kj {op:BinOp}{y:V}:bV op .undef y=none:=by cases op<;>simp [bV]
theorem Kk {op:BinOp}{x:V}:bV op x .undef=none:=by cases op<;>cases x<;>simp [bV]
theorem JR {q:EQ}{y:V}:iH q .undef y=none:=by cases q<;>simp [iH]
theorem JS {q:EQ}{x:V}:iH q x .undef=none:=by cases q<;>cases x<;>simp [iH]
theorem jg {h:Hp}{xs:List V}:storeAt h .undef xs=none:=rfl
theorem jf {h:Hp}{z:Nat}:aD h .undef z=none:=rfl
theorem iy {h:Hp}{z b m:Nat}{xs:List V}:aF h z b .undef m xs=none:=rfl
theorem zk {C:Calls'}{r:R}{ev:X->V}{e:Env}{h:Hp}{y:V×Hp}(hx:∀ x∈r.xs,ev x=.undef\/ev x=x.ev e)(hm:opE C r ev h=some y):opM C r e h=some y:=by
 cases r with
 | mov x =>
  rcases hx x (by simp [R.xs]) with h1 | h1
  · simp [opE,h1,nu] at hm
  · simp only [opE,opM,h1] at hm ⊢;cases hn:nu (x.ev e) with
    | none=>simp [hn] at hm
    | some v=>simp [hn] at hm; rw [(zh hn).1]; exact congrArg some hm
 | pick c a b =>
  rcases hx c (by simp [R.xs]) with h1 | h1
  · simp [opE,h1] at hm
  · simp only [opE,opM,h1] at hm ⊢;split at hm
    · rename_i t ht;rw [ht];dsimp only;have key:∀ z,z∈[a,b]->∀ v,nu (ev z)=some v->z.ev e=v:=by
       intro z hz v hv;obtain ⟨q1,q2⟩:=zh hv;rcases hx z (by simp only [R.xs]; exact List.mem_cons_of_mem _ hz) with h2 | h2
       · exact absurd h2 q2
       · rw [← h2,q1]
      cases t
      · simp only [bm,if_false] at hm ⊢;cases hn:nu (ev b) with
        | none=>simp [hn] at hm
        | some v=>simp [hn] at hm; rw [key b (by simp) v hn]; exact congrArg some hm
      · simp only [if_true] at hm ⊢;cases hn:nu (ev a) with
        | none=>simp [hn] at hm
        | some v=>simp [hn] at hm; rw [key a (by simp) v hn]; exact congrArg some hm
    · cases hm
 | new z=>exact hm
 | box x =>
  rcases hx x (by simp [R.xs]) with h1 | h1
  · simp [opE,h1,V.cells] at hm
  · simp only [opE,opM,h1] at hm ⊢; exact hm
 | build zero ps =>
  simp only [opE,opM] at hm ⊢;split at hm
  · rename_i e1;rw [sO (fun p hp=>hx _ (by simp only [R.xs]; exact b9.2 ⟨p,hp,rfl⟩)) e1]; exact hm
  · cases hm
 | buildS z n zero ps =>
  simp only [opE,opM] at hm ⊢;split at hm
  · rename_i e1;rw [sO (fun p hp=>hx _ (by simp only [R.xs]; exact b9.2 ⟨p,hp,rfl⟩)) e1]; exact hm
  · cases hm
 | mkfn f caps =>
  simp only [opE,opM] at hm ⊢;split at hm
  · rename_i e1;rw [← qH (ev':=(·.ev e)) (fun x hm=>hx x (by simpa [R.xs] using hm)) e1]; exact hm
  · cases hm
 | mkmv f caps =>
  simp only [opE,opM] at hm ⊢;split at hm
  · rename_i e1;rw [← qH (ev':=(·.ev e)) (fun x hm=>hx x (by simpa [R.xs] using hm)) e1]; exact hm
  · cases hm
 | call f args =>
  simp only [opE,opM] at hm ⊢;split at hm
  · rename_i e1;rw [← qH (ev':=(·.ev e)) (fun x hm=>hx x (by simp [R.xs,hm])) e1];rcases hx f (by simp [R.xs]) with h1 | h1
    · simp [h1,iJ] at hm
    · rw [← h1]; exact hm
  · cases hm
 | minmax mx xs =>
  simp only [opE] at hm;split at hm
  · rename_i e1;rw [qH (ev':=(·.ev e)) (fun x hm=>hx x (by simpa [R.xs] using hm)) e1] at hm;cases xs with
    | nil=>cases hm
    | cons x xs=>exact hm
  · cases hm
 | slc k z x lo hi mx =>
  simp only [opE,opM] at hm ⊢;rcases hx x (by simp [R.xs]) with h1 | h1
  · rw [h1] at hm;cases k<;>simp [bP] at hm
  · rw [h1] at hm;cases hs:bP h ev k z (x.ev e) lo hi mx with
    | none=>rw [hs] at hm; simp at hm
    | some r =>
     rw [hs] at hm;rw [Gy (e:=e) (fun y hy=>hx y (by simp only [R.xs,List.append_assoc] at hy ⊢; simp only [List.mem_append] at hy ⊢; exact .inr hy)) hs];exact hm
 | _ =>
  simp only [R.xs,List.mem_cons,List.not_mem_nil,or_false,forall_eq_or_imp,forall_eq] at hx;simp only [opE,opM] at hm ⊢;first
  | (rcases hx with ⟨h1 | h1,h2 | h2⟩<;>rw [h1,h2] at hm<;>first
      | exact hm
      | (exfalso; simp [Kj,Kk,JR,JS,one] at hm; done)
      | (exfalso; revert hm; simp [loadAt,jg,V.cells,one,jf,iy]; done)
      | (exfalso; revert hm; split<;>simp [jg,iy]; done)
      | (exfalso; revert hm; split<;>split<;>simp [jg,iy]; done)
      | (exfalso; revert hm; (repeat' split)<;>simp_all [jg,iy]; done))
  | (rcases hx with h1 | h1<;>rw [h1] at hm<;>first
      | exact hm
      | (exfalso; revert hm; simp [loadAt,storeAt,unD,iH,V.cells,V.len,one,aD,aF]; done)
      | (exfalso; revert hm; (repeat' split)<;>simp_all [unD,V.len,jf]; done))
end
section
def Sub (n:Nat)(a:EA)(e:Env):Prop:=n<=e.length/\∀ i,a.get i=.undef\/a.get i=e.getD i .undef
theorem Sub.x {n:Nat}{a:EA}{e:Env}(h:Sub n a e)(x:X):x.ea a=.undef\/x.ea a=x.ev e:=by
 cases x with
 | c v=>exact .inr rfl
 | t i =>
  exact h.2 i
theorem Sub.set {n:Nat}{a:EA}{e:Env}(h:Sub n a e){d:Option Nat}(hd:∀ i,d=some i->i<n)(v:V):Sub n (cz a d v) (iB e d v):=by
 cases d with
 | none=>exact h
 | some j =>
  have hj:=hd j rfl;refine ⟨by simp only [iB,List.length_set]; exact h.1,fun i=>?_⟩;simp only [cz,iB,EA.get];by_cases hij:j=i
  · subst hij;rw [if_pos rfl];exact .inr (by rw [bo,List.getElem?_set_self (by have:=h.1; omega)]; rfl)
  · rw [if_neg hij];rcases h.2 i with h1 | h2
    · exact .inl h1
    · exact .inr (by rw [h2,bo,bo,am hij])
theorem qP:∀ (l:List Nat) (e:EA) (i:Nat),(bU l e).get i=if i∈l then e.get i else .undef
 | [],e,i=>by simp [bU,EA.get]
 | j::l,e,i=>by
  have ih:=qP l e i;simp only [bU] at ih;simp only [bU,cm,EA.get,ih];by_cases hij:j=i
  · subst hij; simp
  · have hij':¬ i=j:=fun h=>hij h.symm;simp [hij,hij']
theorem Sub.keep {n:Nat}{a:EA}{e:Env}(h:Sub n a e)(l:List Nat):Sub n (bU l a) e:=by
 refine ⟨h.1,fun i=>?_⟩;rw [qP];split
 · exact h.2 i
 · exact .inl rfl
def yV (n:Nat)(keep:List Nat):List Nat:=(List.range n).filter fun i=>!keep.contains i
theorem Bg:∀ (l:List Nat) (e:Env) (i:Nat),i ∉ l->(mask l e).getD i .undef=e.getD i .undef/\(mask l e).length=e.length
 | [],e,i,_=>⟨rfl,rfl⟩
 | j::l,e,i,h=>by
  simp only [List.mem_cons,not_or] at h;have ih:=Bg l (e.set j .undef) i h.2;simp only [mask] at ih;simp only [mask,List.foldl_cons];refine ⟨ih.1.trans ?_,ih.2.trans (by simp)⟩;rw [bo,bo,am (fun q=>h.1 q.symm)]
theorem Bh:∀ (l:List Nat) (e:Env),(mask l e).length=e.length
 | [],e=>rfl
 | j::l,e=>by
  have ih:=Bh l (e.set j .undef);simp only [mask] at ih;simp only [mask,List.foldl_cons];exact ih.trans (by simp)
theorem Sub.mask {n:Nat}{a:EA}{e:Env}(h:Sub n a e)(l:List Nat):Sub n (bU l a) (mask (yV n l) e):=by
 refine ⟨by rw [Bh]; exact h.1,fun i=>?_⟩;rw [qP];split
 · rename_i hi;rcases h.2 i with h1 | h2
   · exact .inl h1
   · refine .inr ?_;rw [h2];refine ((Bg (yV n l) e i ?_).1).symm;simp [yV,hi]
 · exact .inl rfl
theorem RO.fits_d {n:Nat}{o:RO}(h:o.fits n=true):∀ i,o.d=some i->i<n:=by
 intro i hi;simp only [RO.fits,hi,aq,br] at h;exact h.1.1
theorem ol {C:Calls'}{n:Nat}:∀ {os:List RO} {a:EA} {e:Env} {h:Hp} {a':EA} {h':Hp},os.all (RO.fits n)=true->Sub n a e->gY C os a h=some (a',h')->∃ e',kD C os e h=some (e',h')/\Sub n a' e'
 | [],a,e,h,a',h',_,hs,hm=>by simp only [gY] at hm; cases hm; exact ⟨e,rfl,hs⟩
 | o::os,a,e,h,a',h',hf,hs,hm=>by
  simp only [List.all_cons,aq] at hf;have hd:=RO.fits_d hf.1;have hx:∀ x∈o.r.xs,x.ea a=.undef\/x.ea a=x.ev e:=fun x _=>hs.x x;simp only [gY] at hm;simp only [kD];split at hm
  · rename_i hg;simp only [hg];split at hm
    · rename_i v h1 ho;rw [zk hx ho];exact ol hf.2 (hs.set hd v) hm
    · cases hm
  · rename_i j want hg;simp only [hg];have hj:=hs.2 j;split at hm
    · rename_i t ht;have hj2:e.getD j .undef=.d (.bool t):=by rw [ht] at hj; rcases hj with q | q; (· cases q); exact q.symm
      simp only [hj2];split at hm
      · rename_i htw;rw [if_pos htw];split at hm
        · rename_i v h1 ho;rw [zk hx ho];exact ol hf.2 (hs.set hd v) hm
        · cases hm
      · rename_i htw;rw [if_neg htw];exact ol hf.2 (hs.set hd _) hm
    · rename_i ht;have hj2:e.getD j .undef=.tup []:=by rw [ht] at hj; rcases hj with q | q; (· cases q); exact q.symm
      simp only [hj2];exact ol hf.2 (hs.set hd _) hm
    · cases hm
theorem Bn {ev:X->V}{e:Env}{r:R}(C:Calls'){h:Hp}{y:V×Hp}(hx:∀ x∈r.xs,ev x=.undef\/ev x=x.ev e)(hm:opE C r ev h=some y):Bj ev r=gX e r/\xn ev r=ek e r:=by
 cases r<;>first
 | exact ⟨rfl,rfl⟩
 | (simp only [R.xs,List.mem_cons,List.not_mem_nil,or_false,forall_eq_or_imp,forall_eq] at hx
    rcases hx with ⟨h1 | h1,h2 | h2⟩<;>simp only [Bj,gX,xn,ek,h1,h2,and_self]<;>first
     | done
     | (exfalso; revert hm; simp only [opE,h1,h2]; simp [jg,V.cells,jf,iy]; done)
     | (exfalso; revert hm; simp only [opE,h1,h2]; split<;>simp [jg,V.cells,jf,iy]; done)
     | (exfalso; revert hm; simp only [opE,h1,h2]; split<;>split<;>simp_all [jg,V.cells,jf,iy]; done))
 | (simp only [R.xs,List.mem_cons,List.not_mem_nil,or_false,forall_eq_or_imp,forall_eq] at hx
    rcases hx with h1 | h1<;>simp only [Bj,gX,xn,ek,h1,and_self] <;>
     (exfalso; revert hm; simp [opE,h1,loadAt,jf]; done))
 | (rename_i k z x lo hi mx
    rcases hx x (by simp [R.xs]) with h1 | h1
    · exfalso; revert hm; cases k<;>simp [opE,h1,bP]
    · simp only [Bj,gX,xn,ek,h1,and_self])
theorem EH {C:Calls'}{r:R}{ev:X->V}{e:Env}{h:Hp}{y:V×Hp×Tr}(hx:∀ x∈r.xs,ev x=.undef\/ev x=x.ev e)(hm:dh C r ev h=some y):opD C r e h=some y:=by
 cases r with
 | call f args =>
  simp only [dh] at hm;simp only [opD];split at hm
  · rename_i e1;rw [← qH (ev':=(·.ev e)) (fun x hm=>hx x (by simp [R.xs,hm])) e1];rcases hx f (by simp [R.xs]) with h1 | h1
    · simp [h1,iJ] at hm
    · rw [← h1]; exact hm
  · cases hm
 | _ =>
  simp only [dh] at hm;simp only [opD];split at hm
  · rename_i ho;rw [zk hx ho,← (Bn C hx ho).1,← (Bn C hx ho).2];exact hm
  · cases hm
theorem zN {C:Calls'}{n:Nat}:∀ {os:List RO} {a:EA} {e:Env} {h:Hp} {l:List Tr} {a':EA} {h':Hp},os.all (RO.fits n)=true->Sub n a e->gq C os a h=some (l,a',h') →
 ∃ l' e',mG C os e h=some (l',e',h')/\l'.map (·.t)=l/\Sub n a' e'
 | [],a,e,h,l,a',h',_,hs,hm=>by simp only [gq] at hm; cases hm; exact ⟨[],e,rfl,rfl,hs⟩
 | o::os,a,e,h,l,a',h',hf,hs,hm=>by
  simp only [List.all_cons,aq] at hf;have hd:=RO.fits_d hf.1;have hx:∀ x∈o.r.xs,x.ea a=.undef\/x.ea a=x.ev e:=fun x _=>hs.x x;simp only [gq] at hm;simp only [mG,stepD];have go:∀ {v h1 t},dh C o.r (X.ea a) h=some (v,h1,t)->(match gq C os (cz a o.d v) h1 with
   | some (l,e',h'')=>some (t::l,e',h'')
   | none=>none)=some (l,a',h')->∃ l' e',(match mG C os (iB e o.d v) h1 with
   | some (l,e',h')=>some (Stp.mk h v h1 t::l,e',h')
   | none=>none)=some (l',e',h')/\l'.map (·.t)=l/\Sub n a' e':=by
   intro v h1 t _ hm;split at hm
   · rename_i l1 e1 h2 hr;cases hm;obtain ⟨l',e',k1,k2,k3⟩:=zN hf.2 (hs.set hd v) hr;exact ⟨_,e',by rw [k1],by simp [k2],k3⟩
   · cases hm
  have skip:(match gq C os (cz a o.d (.tup [])) h with
   | some (l,e',h'')=>some (av h::l,e',h'')
   | none=>none)=some (l,a',h')->∃ l' e',(match mG C os (iB e o.d (.tup [])) h with
   | some (l,e',h')=>some (Stp.mk h (.tup []) h (av h)::l,e',h')
   | none=>none)=some (l',e',h')/\l'.map (·.t)=l/\Sub n a' e':=by
   intro hm;split at hm
   · rename_i l1 e1 h2 hr;cases hm;obtain ⟨l',e',k1,k2,k3⟩:=zN hf.2 (hs.set hd _) hr;exact ⟨_,e',by rw [k1],by simp [k2],k3⟩
   · cases hm
  split at hm
  · rename_i hg;simp only [hg];split at hm
    · rename_i v h1 t ho;rw [EH hx ho];exact go ho hm
    · cases hm
  · rename_i j want hg;simp only [hg];have hj:=hs.2 j;split at hm
    · rename_i t ht;have hj2:e.getD j .undef=.d (.bool t):=by rw [ht] at hj; rcases hj with q | q; (· cases q); exact q.symm
      simp only [hj2];split at hm
      · rename_i htw;rw [if_pos htw];split at hm
        · rename_i v h1 t ho;rw [EH hx ho];exact go ho hm
        · cases hm
      · rename_i htw;rw [if_neg htw];exact skip hm
    · rename_i ht;have hj2:e.getD j .undef=.tup []:=by rw [ht] at hj; rcases hj with q | q; (· cases q); exact q.symm
      simp only [hj2];exact skip hm
    · cases hm
def Tr.le (t t':Tr):Prop:=t'.call=t.call/\t'.big=t.big/\t'.nd=t.nd/\t'.wr=t.wr/\t'.lo=t.lo/\t'.hi=t.hi/\t'.bl.n=t.bl.n/\∀ b,t.bl.kp.contains b=true->t'.bl.kp.contains b=true
theorem Tr.le.refl (t:Tr):t.le t:=⟨rfl,rfl,rfl,rfl,rfl,rfl,rfl,fun _ h=>h⟩
theorem Tr.le.spares {t t' u u':Tr}(h:t.le t')(k:u.le u')(hs:t.spares u=true):t'.spares u'=true:=by
 obtain ⟨a1,a2,a3,a4,a5,a6,a7,a8⟩:=h;obtain ⟨b1,b2,b3,b4,b5,b6,b7,b8⟩:=k;unfold Tr.spares at hs ⊢;have hc:t'.calm=t.calm:=by simp only [Tr.calm,a2,a4,a5,a6]
 have hst:u'.still=u.still:=by simp only [Tr.still,b1,b2,b3,b4,b5,b6]
 rw [a2,b2,hc,hst,b1,b3,a4,a5,a6,b5,a7];split at hs
 · rename_i hbg;rw [if_pos hbg];simp only [Bool.or_eq_true] at hs ⊢;rcases hs with ((hs | hs) | hs) | hs
   · exact .inl (.inl (.inl hs))
   · exact .inl (.inl (.inr hs))
   · refine .inl (.inr ?_);simp only [aq] at hs ⊢;refine ⟨hs.1,?_⟩;rw [ch] at hs ⊢;intro b hb;have:=hs.2 b hb;simp only [Bool.or_eq_true] at this ⊢;exact this.imp id (a8 b)
   · exact .inr hs
 · rename_i hbg;rw [if_neg hbg];exact hs
def TrsLe:List Tr->List Tr->Prop
 | [],[]=>True
 | t::l,t'::l'=>t.le t'/\TrsLe l l'
 | _,_=>False
theorem TrsLe.len:∀ {l l':List Tr},TrsLe l l'->l.length=l'.length
 | [],[],_=>rfl
 | _::_,_::_,h=>by simp [TrsLe.len h.2]
 | [],_::_,h=>h.elim
 | _::_,[],h=>h.elim
theorem TrsLe.get:∀ {l l':List Tr},TrsLe l l'->∀ {i:Nat} {s:Tr},l[i]?=some s->∃ s',l'[i]?=some s'/\s.le s'
 | _::_,t'::_,h,0,s,hs=>by
  simp only [List.getElem?_cons_zero,bd] at hs;subst hs;exact ⟨t',rfl,h.1⟩
 | _::_,_::_,h,i+1,s,hs=>by
  simp only [List.getElem?_cons_succ] at hs ⊢;exact TrsLe.get h.2 hs
 | [],[],_,_,_,hs=>by simp at hs
 | [],_::_,h,_,_,_=>h.elim
 | _::_,[],h,_,_,_=>h.elim
theorem TrsLe.apart {pr:List (List Nat)}{l l':List Tr}(h:TrsLe l l')(ha:aT pr l=true):aT pr l'=true:=by
 unfold aT at ha ⊢;rw [← h.len];simp only [ch,List.mem_range] at ha ⊢;intro i hi j hj;have:=ha i hi j hj;simp only [Bool.or_eq_true] at this ⊢;rcases this with hh | hh
 · exact .inl hh
 · refine .inr ?_;rw [ac hi,ac hj] at hh;simp only at hh;obtain ⟨s,hs,ms⟩:=h.get (ac hi);obtain ⟨t,ht,mt⟩:=h.get (ac hj);rw [hs,ht];exact ms.spares mt hh
def Tr.drop (t:Tr):Tr:=⟨t.call,t.big,t.nd,t.wr,t.lo,t.hi,⟨t.bl.n,[]⟩⟩
theorem Tr.drop_le (t:Tr):t.drop.le t:=⟨rfl,rfl,rfl,rfl,rfl,rfl,rfl,fun b hb=>by cases hb⟩
theorem drop_le:∀ l:List Tr,TrsLe (l.map Tr.drop) l
 | []=>trivial
 | t::l=>⟨t.drop_le,drop_le l⟩
theorem vI {pr:List (List Nat)}{l:List Tr}(h:aT pr (l.map Tr.drop)=true):aT pr l=true:=(drop_le l).apart h
theorem CG (pr:List (List Nat))(l:List Stp):aT pr (l.map (·.t))=sI pr l:=by
 simp only [aT,sI,bx]
 congr 1; funext i; congr 1; funext j; congr 1
 simp only [List.getElem?_map];cases l[i]?<;>cases l[j]?<;>rfl
theorem IX {C:Calls'}{n:Nat}{pr:List (List Nat)}{os:List RO}{a:EA}{e:Env}{h:Hp}{a':EA}{h':Hp}(hf:os.all (RO.fits n)=true)(hs:Sub n a e)(hm:ai C pr os a h=some (a',h')) :
 ∃ e',wG C pr os e h=some (e',h')/\Sub n a' e':=by
 unfold ai at hm;split at hm
 · rename_i l a1 h1 hr;split at hm
   · rename_i hap;cases hm;obtain ⟨l',e',k1,k2,k3⟩:=zN hf hs hr;refine ⟨e',?_,k3⟩;unfold wG;rw [k1];subst k2;rw [CG] at hap;simp only [hap,if_true]
   · cases hm
 · cases hm
def kindOk (r:R)(t:Tr):Prop:=t.call=false/\t.big=false/\(r.reads=false->t.nd=[])/\(r.writes=false->t.wr=[])/\(r.lays=false->r.writes=false->t.lo=t.hi)
theorem IV {C:Calls'}{r:R}{e:Env}{h:Hp}{v:V}{h':Hp}(hc:r.isCall=false)(h1:r.lays=false)(h2:r.writes=false)(hm:opM C r e h=some (v,h')):h'=h:=by
 cases r<;>simp [R.isCall,R.lays,R.writes] at hc h1 h2<;>simp only [opM,one] at hm;all_goals first
 | (cases hm; rfl)
 | (simp only [bj,co] at hm; obtain ⟨_,_,_,rfl⟩:=hm; rfl)
 | (split at hm<;>first | (cases hm; rfl) | (simp only [bj,co] at hm; obtain ⟨_,_,_,rfl⟩:=hm; rfl))
 | ((repeat' split at hm)<;>first | (cases hm; rfl) | cases hm | (simp only [bj,co] at hm; obtain ⟨_,_,_,rfl⟩:=hm; rfl))
theorem Bq {C:Calls'}{r:R}{e:Env}{h:Hp}{v:V}{h':Hp}(hc:r.isCall=false)(hm:opM C r e h=some (v,h')):∃ t,opD C r e h=some (v,h',t)/\kindOk r t:=by
 have hs:=IV (C:=C) (e:=e) (h:=h) (v:=v) (h':=h') hc;cases r with
 | call f args=>simp [R.isCall] at hc
 | _ =>
  refine ⟨_,by simp only [opD,hm]; rfl,rfl,rfl,?_,?_,fun h1 h2=>by rw [hs h1 h2 hm]⟩<;>intro q<;>first | rfl | (simp [R.reads,R.writes] at q; done)
theorem Ay {C:Calls'}:∀ {os:List RO} {e:Env} {h:Hp} {e':Env} {h':Hp},os.all (fun o=>!o.r.isCall)=true->kD C os e h=some (e',h') →
 ∃ l,mG C os e h=some (l,e',h')/\l.length=os.length/\∀ (i:Nat) (s:Stp) (o:RO),l[i]?=some s->os[i]?=some o->kindOk o.r s.t
 | [],e,h,e',h',_,hm=>by simp only [kD] at hm; cases hm; exact ⟨[],rfl,rfl,fun i s o h1=>by simp at h1⟩
 | o::os,e,h,e',h',hc,hm=>by
  simp only [List.all_cons,aq,Bool.not_eq_true'] at hc;simp only [kD] at hm;simp only [mG,stepD];have hn:kindOk o.r (av h):=⟨rfl,rfl,fun _=>rfl,fun _=>rfl,fun _ _=>rfl⟩;have fin:∀ {v:V} {h1:Hp} {t:Tr},kindOk o.r t->kD C os (iB e o.d v) h1=some (e',h')->∃ l,(match mG C os (iB e o.d v) h1 with
   | some (l,e',h')=>some (Stp.mk h v h1 t::l,e',h')
   | none=>none)=some (l,e',h')/\l.length=(o::os).length/\∀ (i:Nat) (s:Stp) (o':RO),l[i]?=some s->(o::os)[i]?=some o'->kindOk o'.r s.t:=by
   intro v h1 t hk hm;obtain ⟨l,k1,k2,k3⟩:=Ay hc.2 hm;refine ⟨_::l,by rw [k1],by simp [k2],fun i s o' q1 q2=>?_⟩;cases i with
   | zero=>simp at q1 q2; subst q1 q2; exact hk
   | succ i=>exact k3 i s o' (by simpa using q1) (by simpa using q2)
  split at hm
  · rename_i j want hg;simp only [hg];split at hm
    · rename_i t ht;split at hm
      · rename_i htw;rw [if_pos htw];split at hm
        · rename_i v h1 ho;obtain ⟨t,k1,k2⟩:=Bq hc.1 ho;rw [k1];exact fin k2 hm
        · cases hm
      · rename_i htw;rw [if_neg htw];exact fin hn hm
    · rename_i ht;exact fin hn hm
    · cases hm
  · rename_i hg;simp only [hg];split at hm
    · rename_i v h1 ho;obtain ⟨t,k1,k2⟩:=Bq hc.1 ho;rw [k1];exact fin k2 hm
    · cases hm
theorem BA {a b:R}{s t:Tr}(hs:kindOk a s)(ht:kindOk b t)(hp:Dk a b=true):s.spares t=true:=by
 obtain ⟨s1,s2,s3,s4,s5⟩:=hs;obtain ⟨t1,t2,t3,t4,t5⟩:=ht;simp only [Tr.spares,s2,t2,t1,Bool.or_self,bm,if_false,ch];intro x hx;simp only [Dk,R.free,R.still,Bool.or_eq_true,aq,Bool.not_eq_true'] at hp;rcases hp with ((⟨⟨p1,p2⟩,p3⟩ | ⟨⟨p1,p2⟩,p3⟩) | ⟨⟨p1,p2⟩,⟨p3,p4⟩⟩) | ⟨p1,p2⟩
 · rw [s4 p3,s5 p2 p3]; simp; omega
 · rw [t3 p1] at hx; cases hx
 · rw [s4 p2,s5 p1 p2]; simp; omega
 · rw [t3 (by cases b<;>simp [R.lays,R.reads] at p2 ⊢)] at hx; cases hx
theorem HY {C:Calls'}{pr:List (List Nat)}{os:List RO}{e:Env}{h:Hp}{e':Env}{h':Hp}(hc:Ej pr os=true)(hm:kD C os e h=some (e',h')):wG C pr os e h=some (e',h'):=by
 simp only [Ej,aq] at hc;obtain ⟨l,k1,k2,k3⟩:=Ay hc.1 hm;unfold wG;rw [k1];have:sI pr l=true:=by
  simp only [sI,ch,List.mem_range];intro i hi j hj;have:=ch.1 (ch.1 hc.2 i (List.mem_range.2 (by omega))) j (List.mem_range.2 (by omega));simp only [Bool.or_eq_true] at this ⊢;refine this.imp id fun q=>?_;rw [ac (show i<os.length by omega),ac (show j<os.length by omega)] at q;rw [ac hi,ac hj];exact BA (k3 i _ _ (ac hi) (ac (show i<os.length by omega))) (k3 j _ _ (ac hj) (ac (show j<os.length by omega))) q
 simp only [this,if_true]
end
section
def je (n:Nat):RC->QC->RC
 | .seq a b,.seq a' b'=>.seq (je n a a') (je n b b')
 | .cond c a b,.cond _ a' b'=>.cond c (je n a a') (je n b b')
 | .block i b,.block _ b'=>.block i (je n b b')
 | .loop _ b,.loop keep b'=>.loop (yV n keep) (je n b b')
 | c,_=>c
theorem kF {n:Nat}:∀ {c:RC} {q:QC},(je n c q).strip=c.strip
 | .seq a b,.seq a' b'=>by simp only [je,RC.strip,kF]
 | .cond c a b,.cond _ a' b'=>by simp only [je,RC.strip,kF]
 | .block i b,.block _ b'=>by simp only [je,RC.strip,kF]
 | .loop _ b,.loop keep b'=>by simp only [je,RC.strip,kF]
 | .skip,q | .ret,q | .exit i,q | .reg pr os,q=>by cases q<;>rfl
 | .seq a b,.skip | .seq a b,.ret _ | .seq a b,.exit _ _ | .seq a b,.reg _ _ | .seq a b,.cond _ _ _ | .seq a b,.block _ _ | .seq a b,.loop _ _=>rfl
 | .cond _ a b,.skip | .cond _ a b,.ret _ | .cond _ a b,.exit _ _ | .cond _ a b,.reg _ _ | .cond _ a b,.seq _ _ | .cond _ a b,.block _ _ | .cond _ a b,.loop _ _=>rfl
 | .block _ b,.skip | .block _ b,.ret _ | .block _ b,.exit _ _ | .block _ b,.reg _ _ | .block _ b,.seq _ _ | .block _ b,.cond _ _ _ | .block _ b,.loop _ _=>rfl
 | .loop _ b,.skip | .loop _ b,.ret _ | .loop _ b,.exit _ _ | .loop _ b,.reg _ _ | .loop _ b,.seq _ _ | .loop _ b,.cond _ _ _ | .loop _ b,.block _ _=>rfl
theorem Gr {c:RC}{a b:RC}(h:c.quiet=.seq a b):∃ a' b',c=.seq a' b'/\a'.quiet=a/\b'.quiet=b:=by
 cases c with
 | reg pr os=>cases pr with
  | none=>cases h
  | some pr=>simp only [RC.quiet] at h; split at h<;>cases h
 | seq x y=>simp only [RC.quiet] at h; cases h; exact ⟨_,_,rfl,rfl,rfl⟩
 | _=>cases h
theorem Dp {c:RC}{x:X}{a b:RC}(h:c.quiet=.cond x a b):∃ a' b',c=.cond x a' b'/\a'.quiet=a/\b'.quiet=b:=by
 cases c with
 | reg pr os=>cases pr with
  | none=>cases h
  | some pr=>simp only [RC.quiet] at h; split at h<;>cases h
 | cond c x y=>simp only [RC.quiet] at h; cases h; exact ⟨_,_,rfl,rfl,rfl⟩
 | _=>cases h
theorem BN {c:RC}{i:Nat}{b:RC}(h:c.quiet=.block i b):∃ b',c=.block i b'/\b'.quiet=b:=by
 cases c with
 | reg pr os=>cases pr with
  | none=>cases h
  | some pr=>simp only [RC.quiet] at h; split at h<;>cases h
 | block i x=>simp only [RC.quiet] at h; cases h; exact ⟨_,rfl,rfl⟩
 | _=>cases h
theorem Dq {c:RC}{d:List Nat}{b:RC}(h:c.quiet=.loop d b):∃ b',c=.loop d b'/\b'.quiet=b:=by
 cases c with
 | reg pr os=>cases pr with
  | none=>cases h
  | some pr=>simp only [RC.quiet] at h; split at h<;>cases h
 | loop i x=>simp only [RC.quiet] at h; cases h; exact ⟨_,rfl,rfl⟩
 | _=>cases h
theorem fJ {C:Calls'}{N:Nat}:∀ {n:Nat} {c:RC} {q:QC} {a:EA} {e:Env} {h:Hp} {ex:Ex} {a':EA} {h':Hp},c.quiet=q.toRC->q.fits N=true->Sub N a e->aW C n q a h=some (ex,a',h') →
 ∃ e',bu C n (je N c q) e h=some (ex,e',h')/\Sub N a' e'
 | 0,c,q,a,e,h,ex,a',h',_,_,_,hm=>by simp [aW] at hm
 | n+1,c,q,a,e,h,ex,a',h',hq,hf,hs,hm=>by
  cases q with
  | skip =>
   have:c=.skip:=by
    cases c with
    | reg pr os=>cases pr with
     | none=>cases hq
     | some pr=>simp only [RC.quiet,QC.toRC] at hq; split at hq<;>cases hq
    | skip=>rfl
    | _=>cases hq
   subst this;simp only [aW] at hm; cases hm;exact ⟨e,rfl,hs⟩
  | ret keep =>
   have:c=.ret:=by
    cases c with
    | reg pr os=>cases pr with
     | none=>cases hq
     | some pr=>simp only [RC.quiet,QC.toRC] at hq; split at hq<;>cases hq
    | ret=>rfl
    | _=>cases hq
   subst this;simp only [aW] at hm; cases hm;exact ⟨e,rfl,hs.keep _⟩
  | exit i keep =>
   have:c=.exit i:=by
    cases c with
    | reg pr os=>cases pr with
     | none=>cases hq
     | some pr=>simp only [RC.quiet,QC.toRC] at hq; split at hq<;>cases hq
    | exit i=>cases hq; rfl
    | _=>cases hq
   subst this;simp only [aW] at hm; cases hm;exact ⟨e,rfl,hs.keep _⟩
  | reg pr os =>
   have hc:c=.reg pr os\/∃ p,pr=none/\c=.reg (some p) os/\Ej p os=true:=by
    cases c with
    | reg pr' os'=>cases pr' with
     | none=>cases hq; exact .inl rfl
     | some p =>
      simp only [RC.quiet,QC.toRC] at hq;split at hq
      · rename_i hcalm; cases hq; exact .inr ⟨p,rfl,rfl,hcalm⟩
      · cases hq; exact .inl rfl
    | _=>cases hq
   have hfo:os.all (RO.fits N)=true:=hf;rcases hc with rfl | ⟨p,rfl,rfl,hcalm⟩
   · cases pr with
     | none =>
      simp only [aW,lead] at hm;split at hm
      · rename_i a1 h1 ho;cases hm;obtain ⟨e',k1,k2⟩:=ol hfo hs ho;exact ⟨e',by simp only [je,bu,k1],k2⟩
      · cases hm
     | some p =>
      simp only [aW,lead] at hm;split at hm
      · rename_i a1 h1 ho;cases hm;obtain ⟨e',k1,k2⟩:=IX hfo hs ho;exact ⟨e',by simp only [je,bu,k1],k2⟩
      · cases hm
   · simp only [aW,lead] at hm;split at hm
     · rename_i a1 h1 ho;cases hm;obtain ⟨e',k1,k2⟩:=ol hfo hs ho;exact ⟨e',by simp only [je,bu,HY hcalm k1],k2⟩
     · cases hm
  | seq x y =>
   obtain ⟨x',y',rfl,q1,q2⟩:=Gr hq;simp only [QC.fits,aq] at hf;simp only [aW,dM] at hm;split at hm
   · rename_i a1 h1 ho;obtain ⟨e1,k1,k2⟩:=fJ q1 hf.1 hs ho;obtain ⟨e2,k3,k4⟩:=fJ q2 hf.2 k2 hm;exact ⟨e2,by simp only [je,bu,k1,k3],k4⟩
   · rename_i o hne;obtain ⟨e1,k1,k2⟩:=fJ q1 hf.1 hs hm;refine ⟨e1,?_,k2⟩;simp only [je,bu,k1];cases ex with
     | normal=>exact absurd hm (hne _ _)
     | _=>rfl
  | cond x y z =>
   obtain ⟨y',z',rfl,q1,q2⟩:=Dp hq;simp only [QC.fits,aq] at hf;simp only [aW,fork] at hm;have hx:=hs.x x;split at hm
   · rename_i hv;have hv2:x.ev e=.d (.bool true):=by rw [hv] at hx; rcases hx with w | w; (· cases w); exact w.symm
     obtain ⟨e1,k1,k2⟩:=fJ q1 hf.1.2 hs hm;exact ⟨e1,by simp only [je,bu,hv2,if_true,k1],k2⟩
   · rename_i hv;have hv2:x.ev e=.d (.bool false):=by rw [hv] at hx; rcases hx with w | w; (· cases w); exact w.symm
     obtain ⟨e1,k1,k2⟩:=fJ q2 hf.2 hs hm;exact ⟨e1,by simp only [je,bu,hv2,bm,if_false,k1],k2⟩
   · cases hm
  | block i b =>
   obtain ⟨b',rfl,q1⟩:=BN hq;simp only [aW,leave] at hm;split at hm
   · rename_i j a1 h1 ho;obtain ⟨e1,k1,k2⟩:=fJ q1 hf hs ho;split at hm
     · rename_i hji;cases hm;exact ⟨e1,by simp only [je,bu,k1,if_pos hji],k2⟩
     · rename_i hji;cases hm;exact ⟨e1,by simp only [je,bu,k1,if_neg hji],k2⟩
   · rename_i o hne;obtain ⟨e1,k1,k2⟩:=fJ q1 hf hs hm;refine ⟨e1,?_,k2⟩;simp only [je,bu,k1];cases ex with
     | exit j=>exact absurd hm (hne _ _ _)
     | _=>rfl
  | loop keep b =>
   obtain ⟨b',rfl,q1⟩:=Dq hq;simp only [aW,dM] at hm;split at hm
   · rename_i a1 h1 ho;obtain ⟨e1,k1,k2⟩:=fJ q1 hf (hs.mask keep) ho;obtain ⟨e2,k3,k4⟩:=fJ (c:=.loop [] b') (q:=.loop keep b) hq hf k2 hm;exact ⟨e2,by simp only [je] at k3 ⊢; simp only [bu,k1,k3],k4⟩
   · rename_i o hne;obtain ⟨e1,k1,k2⟩:=fJ q1 hf (hs.mask keep) hm;refine ⟨e1,?_,k2⟩;simp only [je,bu,k1];cases ex with
     | normal=>exact absurd hm (hne _ _)
     | _=>rfl
theorem vC {N:Nat}{h:Hp}{a:EA}{e:Env}(hs:Sub N a e):∀ {l:List RV} {vs:List V},mP h a l=some vs->tX h e l=some vs
 | [],vs,hm=>hm
 | .tmp t::l,vs,hm=>by
  simp only [mP] at hm;split at hm
  · rename_i v vs' hv hr;cases hm;obtain ⟨q1,q2⟩:=zh hv;simp only [tX,vC hs hr];rcases hs.2 t with w | w
    · exact absurd (q1 ▸ w) q2
    · rw [← w,q1]
  · cases hm
 | .cell t sc n::l,vs,hm=>by
  simp only [mP] at hm;split at hm
  · rename_i cs hl;split at hm
    · rename_i v vs' hv hr;cases hm;have:a.get t=e.getD t .undef:=by
       rcases hs.2 t with w | w
       · rw [w] at hl; simp [loadAt] at hl
       · exact w
      simp only [tX,← this,hl,hv,vC hs hr]
    · cases hm
  · cases hm
theorem Ap:∀ (i:Nat) (vs:List V) (j:Nat),(jP i vs).get j=if i<=j then vs.getD (j-i) .undef else .undef
 | i,[],j=>by simp [jP,EA.get]
 | i,v::l,j=>by
  simp only [jP,EA.get,Ap (i+1) l j];by_cases h:i=j
  · subst h; simp
  · by_cases h2:i<=j
    · have:j-i=(j-(i+1))+1:=by omega
      rw [if_neg h,if_pos (by omega),if_pos h2,this]; simp
    · rw [if_neg h,if_neg (by omega),if_neg h2]
theorem Aq {N:Nat}{vs:List V}:Sub N (jP 0 vs) (vs++List.replicate (N-vs.length) .undef):=by
 refine ⟨by simp; omega,fun i=>?_⟩;rw [Ap,if_pos (Nat.zero_le _)];simp only [Nat.sub_zero,bo];rcases ck i vs.length with h | h
 · right;rw [ao h]
 · left;rw [bb h]; rfl
def mQ (P:Program)(T:FuncId->Option QF):Prop:=∀ f q,T f=some q->∃ rf,Du P f=some rf/\rf.quiet=q.toRF/\q.fits=true
def DX (P:Program)(T:FuncId->Option QF)(f:FuncId):Option RF:=match T f,Du P f with
 | some q,some rf=>some ⟨rf.ntmps,rf.res,je rf.ntmps rf.code q.code⟩
 | _,_=>none
theorem Hw {C:Calls'}{n:Nat}{q:QF}{rf:RF}(hq:rf.quiet=q.toRF)(hf:q.fits=true){args:List V}{h:Hp}{r:V}{h':Hp}(hm:jQ C n q args h=some (r,h')) :
 pg C n ⟨rf.ntmps,rf.res,je rf.ntmps rf.code q.code⟩ args h=some (r,h'):=by
 have e1:rf.ntmps=q.ntmps:=congrArg RF.ntmps hq;have e2:rf.res=q.res:=congrArg RF.res hq;have e3:rf.code.quiet=q.code.toRC:=congrArg RF.code hq;simp only [QF.fits,aq] at hf;unfold jQ done at hm;unfold pg;split at hm
 · rename_i a1 h1 ho;obtain ⟨e',k1,k2⟩:=fJ (N:=rf.ntmps) e3 (by rw [e1]; exact hf.1) Aq ho;simp only [k1];split at hm
   · rename_i vs hr;cases hm;rw [e2,vC k2 hr]
   · cases hm
 · rename_i a1 h1 ho;obtain ⟨e',k1,k2⟩:=fJ (N:=rf.ntmps) e3 (by rw [e1]; exact hf.1) Aq ho;simp only [k1];split at hm
   · rename_i vs hr;cases hm;rw [e2,vC k2 hr]
   · cases hm
 · cases hm
theorem EP {P:Program}{E:Calls'}{T:FuncId->Option QF}(hT:mQ P T)(val:FuncId->Bool):∀ (k:Nat) {f:FuncId} {args:List V} {h:Hp} {r:V×Hp},eF E T val k f args h=some r->xL E (DX P T) val k f args h=some r
 | 0,f,args,h,r,hm=>by simp [eF] at hm
 | k+1,f,args,h,r,hm=>by
  have ih:Leq (eF E T val k) (xL E (DX P T) val k):=fun _ _ _ _=>EP hT val k;simp only [eF] at hm;simp only [xL];split at hm
  · rename_i hf;simp only [DX,hf];exact hm
  · rename_i q hf;obtain ⟨rf,h1,h2,h3⟩:=hT f q hf;simp only [DX,hf,h1];have key:∀ {as:List V} {h0:Hp} {x:V×Hp},jQ (eF E T val k) k q as h0=some x->pg (xL E (DX P T) val k) k ⟨rf.ntmps,rf.res,je rf.ntmps rf.code q.code⟩ as h0=some x:=by
     intro as h0 x hb;obtain ⟨x,h'⟩:=x;have:=Hw h2 h3 hb;unfold pg at this ⊢;split at this
     · rename_i e1 h4 ho;rw [dH ih (bp _) ho]; exact this
     · rename_i e1 h4 ho;rw [dH ih (bp _) ho]; exact this
     · cases this
    split at hm
    · rename_i hv;simp only [hv,if_true];simp only [pu] at hm;split at hm
      · cases hm
      · rename_i as has;split at hm
        · cases hm
        · rename_i r1 h4 hb;simp only [has,key hb];exact hm
    · rename_i hv;simp only [hv];simp only [dU] at hm;split at hm
      · cases hm
      · rename_i r1 h4 hb;rw [key hb];exact hm
theorem zR {P:Program}(hmix:P.follows .mixedOrders=true){E:Calls'}(hE:aQ P E){T:FuncId->Option QF}(hT:mQ P T)(val:FuncId->Bool)(k:Nat):aQ P (eF E T val k):=by
 have hN:Eg P (DX P T):=by
  intro f rf h;unfold DX at h;split at h
  · rename_i q rf0 hq hrf;cases h;obtain ⟨fn,c,k1,k2,k3,k4,k5,k6⟩:=Qv P f rf0 hrf;exact ⟨fn,c,k1,k2,by rw [kF]; exact k3,k4,k5,k6⟩
  · cases h
 intro f args h r h' hm;exact reads hmix hE val hN k f args h r h' (EP hT val k hm)
end
