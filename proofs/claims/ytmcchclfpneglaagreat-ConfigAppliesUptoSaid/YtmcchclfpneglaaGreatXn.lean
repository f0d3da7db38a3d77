/- Rows of values that are made by append, in memory of one's own; a row's copy. -/
import Derived.Test.YtmcchclfpneglaaGreatXa
set_option maxRecDepth 100000
set_option linter.unusedVariables false
set_option linter.unusedSimpArgs false
namespace Go.Proofs.YtmcchclfpneglaaGreat
open IntKind (wrap)
section
variable {w:Bool}
variable {w:Bool}
def KB (L:Nat)(bs:List Blk)(B:Nat):Nat->Prop:=fun x=>L<=x/\x<bs.length/\x≠B
def KL (L:Nat)(bs:List Blk):Nat->Prop:=fun x=>L<=x/\x<bs.length
def AccV (w:Bool)(L z k n:Nat)(ds:List D)(bs:List Blk)(v:V):Prop:=(n=0/\ds=[]/\v=.d (.slice true []))\/(0<n/\∃ B cs,L<=B/\v=.row B 0 n none z/\af bs B=some cs/\cs.length=n * z/\Hngs w (KB L bs B) bs k cs ds)
theorem AccV.nil (L z k:Nat)(bs:List Blk):AccV w L z k 0 [] bs (.d (.slice true [])):=.inl ⟨rfl,rfl,rfl⟩
theorem AccV.nu {L z k n:Nat}{ds:List D}{bs:List Blk}{v:V}(h:AccV w L z k n ds bs v):nu v=some v:=by
 rcases h with ⟨_,_,rfl⟩ | ⟨_,B,cs,_,rfl,_⟩<;>rfl
theorem AccV.on {L z k n:Nat}{ds:List D}{bs bs':List Blk}{v:V}(h:AccV w L z k n ds bs v)(hl:bs.length<=bs'.length)(ho:∀ x,L<=x->x<bs.length->bs'[x]?=bs[x]?):AccV w L z k n ds bs' v:=by
 rcases h with h | ⟨h0,B,cs,h1,h2,h3,h4,h5⟩
 · exact .inl h
 · refine .inr ⟨h0,B,cs,h1,h2,?_,h4,h5.on (fun x hx=>ho x hx.1 hx.2.1) fun x hx=>⟨hx.1,by have:=hx.2.1; omega,hx.2.2⟩⟩;rw [← h3]; unfold af; rw [ho B h1 (aI h3)]
theorem AccV.app {L L2 z k n:Nat}{ds es:List D}{bs:List Blk}{v:V}(h:AccV w L z k n ds bs v)(hz0:0<z){by_:Nat}(hby:by_<=4096)(hl:n<big){r:Nat}{cap:Option Nat}{vs:List V}(hvl:vs.length=z)(hr:af bs r=some vs)
 (hL:L<=L2) (hB:∀ B n' c,v=.row B 0 n' c z->B<L2) (hv:Hngs w (KL L2 bs) bs k vs es) (hLb:L<=bs.length) :
 ∃ v' bs',∃ F:Nat->Nat,(∀ lo,dZ ⟨bs,lo⟩ z by_ v (.row r 0 1 cap z)=some (v',⟨bs',F lo⟩))/\AccV w L z k (n+1) (ds++es) bs' v'/\bs.length<=bs'.length/\(∀ x,x<L->bs'[x]?=bs[x]?)/\∀ lo:Nat,F lo<=lo:=by
 have hrc:∀ lo,aD ⟨bs,lo⟩ (.row r 0 1 cap z) z=some (1,vs):=fun lo=>by
  have:sub vs 0 z=some vs:=bH hvl;simp only [aD,if_true,get_eq,hr,Nat.one_mul,this,Option.map_some]
 have hroom:∀ n,n<=big->roomy n by_=true:=fun n hn=>by simp only [roomy,aq,br]; exact ⟨hn,hby⟩
 rcases h with ⟨rfl,rfl,rfl⟩ | ⟨h0,B,cs,h1,rfl,h3,h4,h5⟩
 · refine ⟨.row bs.length 0 1 none z,bs++[.cells vs],id,fun lo=>by simp only [dZ,hrc,aF,if_neg (show ¬ (1=0) by decide),if_neg (show ¬ z=0 by omega),hroom 1 (by decide),if_true]; rfl,.inr ⟨by omega,bs.length,vs,hLb,rfl,by simp,by simpa using hvl,?_⟩,by simp,fun x hx=>by rw [ao (by omega)],fun lo=>bp _⟩;exact hv.on (fun x hx=>by rw [ao hx.2]) fun x hx=>⟨by have:=hx.1; omega,by have:=hx.2; simp; omega,by have:=hx.2; omega⟩
 · have hsub:sub cs 0 (n * z)=some cs:=bH h4;have hpos:0<cs.length:=by rw [h4]; exact Nat.mul_pos h0 hz0
   have hbl:=aI h3;have hBL:=hB B n none rfl;refine ⟨.row bs.length 0 (n+1) none z,bs.set B (.cells [])++[.cells (cs++vs)],fun lo=>min lo B,fun lo=>by simp only [dZ,hrc,aF,ne_eq,not_true_eq_false,false_or,if_neg (show ¬ (1=0) by decide),if_neg (show ¬ z=0 by omega),get_eq,h3,hsub,hroom (n+1) (by omega),Bool.not_true,bm,if_false,hpos,and_self,if_true,Hp.size,Hp.alloc,Hp.set,List.length_set],.inr ⟨by omega,bs.length,cs++vs,hLb,rfl,?_,by rw [ap,h4,hvl,Nat.succ_mul],?_⟩,by simp,fun x hx=>?_,fun lo=>Nat.min_le_left _ _⟩
   · have:af (bs.set B (.cells [])++[.cells (cs++vs)]) (bs.set B (.cells [])).length=some (cs++vs):=by rw [di]; rfl
     rw [List.length_set] at this;exact this
   · have ho:∀ x,x<bs.length->x≠B->(bs.set B (.cells [])++[.cells (cs++vs)])[x]?=bs[x]?:=fun x hx hne=>by
      rw [ao (by simpa using hx),am (Ne.symm hne)]
     refine (h5.on (fun x hx=>ho x hx.2.1 hx.2.2) fun x hx=>⟨hx.1,by have:=hx.2.1; simp; omega,by have:=hx.2.1; omega⟩).app (hv.on (fun x hx=>ho x hx.2 (by have:=hx.1; omega)) fun x hx=>⟨by have:=hx.1; omega,by have:=hx.2; simp; omega,by have:=hx.2; omega⟩)
   · rw [ao (by simp; omega),am (by omega)]
theorem AccV.hng {L z k n:Nat}{bs:List Blk}{v:V}{es:List (List D)}(h:AccV w L z k n es.flatten bs v)(hz:∀ e∈es,e.length=z)(hn:n=es.length):Hng w (KL L bs) bs v (.slice es.isEmpty es) (k+1):=by
 rcases h with ⟨h0,h1,rfl⟩ | ⟨h0,B,cs,h1,rfl,h3,h4,h5⟩
 · have:es=[]:=List.eq_nil_of_length_eq_zero (by omega);subst this;exact Hng.d fun nl c cs hh=>by simp at hh
 · have he:es.isEmpty=false:=by cases es with
    | nil=>simp at hn; omega
    | cons _ _=>rfl
   rw [he];exact Hng.row ⟨h1,aI h3⟩ h3 (h5.on (fun _ _=>rfl) fun x hx=>⟨hx.1,hx.2.1⟩) hz hn
theorem cpy {α:Type}{cells:α->List D}{z by_:Nat}(hz:∀ x,(cells x).length=z)(hz0:0<z)(hby:by_<=4096){s:Sl α}(hs:short s)(bs:List Blk):∃ v ys,(∀ lo,dZ ⟨bs++[.cells []],lo⟩ z by_ (.row bs.length 0 0 (some 0) z) (.d (s.d cells))=some (v,⟨bs++([.cells []]++ys),lo⟩))/\v.cells=some [v]/\nu v=some v/\Hng false (KL bs.length (bs++([.cells []]++ys))) (bs++([.cells []]++ys)) v (.slice false (s.l.map cells)) 1:=by
 have hzz:z≠0:=by omega
 have hrc:∀ h,aD h (.d (s.d cells)) z=some (s.l.length,flat (s.l.map cells)):=fun h=>by
  have hall:((s.l.map cells).all fun e=>e.length==z)=true:=ch.2 fun x hx=>by
   obtain ⟨y,_,rfl⟩:=b9.1 hx;simp [hz]
  simp only [aD,Sl.d,hall,if_true,flat,bx]
 by_cases h0:s.l.length=0
 · have hl:s.l=[]:=List.length_eq_zero_iff.1 h0;refine ⟨.row bs.length 0 0 (some 0) z,[],fun lo=>?_,rfl,rfl,?_⟩
   · simp only [dZ,hrc,aF,if_pos h0];simp [hzz]
   · rw [hl];exact Hng.row (cs:=[]) (es:=[]) (k:=0) ⟨bp _,by simp⟩ (by simp) trivial (by simp) rfl
 · have hroom:roomy s.l.length by_=true:=by simp only [roomy,aq,br]; exact ⟨hs.1,hby⟩
   refine ⟨.row (bs.length+1) 0 s.l.length none z,[.cells (flat (s.l.map cells))],fun lo=>?_,rfl,rfl,?_⟩
   · simp only [dZ,hrc,aF,if_neg h0];simp [hzz,hroom,h0]
   · refine Hng.row (cs:=flat (s.l.map cells)) (k:=0) ⟨by omega,by simp⟩ ?_ ?_ (fun e he=>by obtain ⟨y,_,rfl⟩:=b9.1 he; exact hz y) (by simp)
     · have:=gD (bs:=bs) (ys:=[.cells [],.cells (flat (s.l.map cells))]) (i:=1);rw [show bs++([Blk.cells []]++[Blk.cells (flat (s.l.map cells))])=bs++[.cells [],.cells (flat (s.l.map cells))] from rfl,this];rfl
     · exact Hngs.data
end
section
variable {E:Calls'}
def eO {α:Type}(s:Sl α):Sl α:=⟨false,s.l⟩
def gp {α:Type}(l:List α):Sl α:=⟨l.isEmpty,l⟩
def Source.cp (s:Source):Source:=⟨eO s.names,eO s.spaces,eO s.nets⟩
def Target.cp (t:Target):Target:=⟨eO t.ports,eO t.methods,eO t.paths,eO t.hosts⟩
def When.cp (w:When):When:=⟨w.head,eO w.terms⟩
def Rule.cp (r:Rule):Rule:=⟨gp (r.frm.l.map Source.cp),gp (r.to.l.map Target.cp),gp (r.whn.l.map When.cp)⟩
structure K3 (r:Rule) (ws:List V) (L:Nat) (B0 bs:List Blk):Prop where
 r0:af bs 0=some (r.c.map .d)
 a0:af bs 1=some [.d (.slice true []),.d (.slice true []),.d (.slice true [])]
 x0:af bs 2=some ws
 L3:3<=L
 len:L<=bs.length
 old:∀ x,x<L->x≠2->bs[x]?=B0[x]?
theorem AccV.cl {w:Bool}{L z k n:Nat}{ds:List D}{bs:List Blk}{v:V}(h:AccV w L z k n ds bs v):v.cells=some [v]:=by
 rcases h with ⟨_,_,rfl⟩ | ⟨_,B,cs,_,rfl,_⟩<;>rfl
theorem AccV.blk {w:Bool}{L z k n:Nat}{ds:List D}{bs:List Blk}{v:V}(h:AccV w L z k n ds bs v):v.blk=[]\/∃ B,v.blk=[B]/\L<=B/\B<bs.length:=by
 rcases h with ⟨_,_,rfl⟩ | ⟨_,B,cs,h1,rfl,h3,_⟩
 · exact .inl rfl
 · exact .inr ⟨B,rfl,h1,aI h3⟩
theorem Hng.ext {w:Bool}{L L' k:Nat}{bs:List Blk}{v:V}{d:D}(h:Hng w (KL L bs) bs v d k)(ys:List Blk)(hL:L'<=L):Hng w (KL L' (bs++ys)) (bs++ys) v d k :=
 h.on (fun x hx=>ao hx.2) fun x hx=>⟨ce hL hx.1,by have:=hx.2; simp; omega⟩
theorem Ri (r:Rule)(hr:r.fits big)(vT vW:V)(L:Nat)(B0:List Blk):∀ (m i:Nat) (bs:List Blk) (lo:Nat) (v:V),i+m=r.frm.l.length->K3 r [v,vT,vW] L B0 bs->AccV false L 3 1 i ((r.frm.l.take i).map fun s=>s.cp.c).flatten bs v →
 ∃ bs' lo' v',Cd E TX aM (.loop [1,2,3,4] tJ) [(1,.ptr 0 0),(2,.ptr 1 0),(3,.ptr 2 0),(4,.d (i64 i))] ⟨bs,lo⟩=some (.exit 0,[(1,.ptr 0 0),(2,.ptr 1 0),(3,.ptr 2 0)],⟨bs',lo'⟩)/\K3 r [v',vT,vW] L B0 bs'/\AccV false L 3 1 r.frm.l.length (r.frm.l.map fun s=>s.cp.c).flatten bs' v':=by
 intro m;have hlen:=hr.1.1.lt;have key:=aC (E:=E) (T:=TX) (val:=aM) [1,2,3,4] tJ;generalize Cd E TX aM (.loop [1,2,3,4] tJ)=W at key ⊢
 induction m with
 | zero =>
  intro i bs lo v hi hK hA;have:i=r.frm.l.length:=by omega
  subst this;rw [List.take_length] at hA;refine ⟨bs,lo,v,?_,hK,hA⟩;rw [key];simp [tJ,hK.r0]
 | succ m ih =>
  intro i bs lo v hi hK hA;have hlt:i<r.frm.l.length:=by omega
  have hx:=ac hlt;have hmem:=bh hlt;have htk:r.frm.l.take (i+1)=r.frm.l.take i++[r.frm.l[i]]:=by rw [List.take_add_one,hx]; rfl
  generalize r.frm.l[i]=s at *;have hfs:=hr.1.2 s hmem;have hsx:=fun h=>ay (z:=3) h hx (cells:=Source.c) rfl;have hw:=ak hlt hlen;have h0:((i:Int)<r.frm.l.length):=by omega
  have hnu:=hA.nu;have hL3:=hK.L3;have hk3:=hK.len;have hr1:=ax (ys:=[.cells (s.c.map .d)]) hK.r0;obtain ⟨v1,y1,a1,b1,c1,d1⟩:=cpy (cells:=Term.c) (z:=2) (by_:=24) (fun _=>rfl) (by decide) (by decide) hfs.1 (bs++[.cells (s.c.map .d)]);obtain ⟨v2,y2,a2,b2,c2,d2⟩:=cpy (cells:=Term.c) (z:=2) (by_:=24) (fun _=>rfl) (by decide) (by decide) hfs.2.1 (bs++[.cells (s.c.map .d)]++([.cells []]++y1));obtain ⟨v3,y3,a3,b3,c3,d3⟩:=cpy (cells:=Cidr.c) (z:=2) (by_:=16) (fun _=>rfl) (by decide) (by decide) hfs.2.2 (bs++[.cells (s.c.map .d)]++([.cells []]++y1)++([.cells []]++y2));obtain ⟨H,hH⟩:∃ H,H=bs++Blk.cells (List.map V.d s.c)::Blk.cells []::(y1++Blk.cells []::(y2++Blk.cells []::(y3++[Blk.cells [v1,v2,v3]]))):=⟨_,rfl⟩;have g1:=d1.ext (L':=bs.length) (([.cells []]++y2)++([.cells []]++y3)++[.cells [v1,v2,v3]]) (by simp);have g2:=d2.ext (L':=bs.length) (([.cells []]++y3)++[.cells [v1,v2,v3]]) (by simp);have g3:=d3.ext (L':=bs.length) ([.cells [v1,v2,v3]]) (by simp);have G1:Hng false (KL bs.length H) H v1 (.slice false (s.names.l.map Term.c)) 1:=by rw [hH]; simpa using g1
  have G2:Hng false (KL bs.length H) H v2 (.slice false (s.spaces.l.map Term.c)) 1:=by rw [hH]; simpa using g2
  have G3:Hng false (KL bs.length H) H v3 (.slice false (s.nets.l.map Cidr.c)) 1:=by rw [hH]; simpa using g3
  have hvs:Hngs false (KL bs.length H) H 1 [v1,v2,v3] s.cp.c:=⟨G1,G2,G3,trivial⟩;have hHp:∀ x,x<bs.length->H[x]?=bs[x]?:=fun x hx=>by rw [hH,ao hx]
  have hHl:bs.length<=H.length:=by rw [hH]; simp
  have hAH:=hA.on hHl fun x _ hx=>hHp x hx;have hHr:af H (bs.length+(y1.length+(y2.length+(y3.length+1)+1)+1+1))=some [v1,v2,v3]:=by
   rw [hH];have:=gD (bs:=bs) (ys:=Blk.cells (List.map V.d s.c)::Blk.cells []::(y1++Blk.cells []::(y2++Blk.cells []::(y3++[Blk.cells [v1,v2,v3]])))) (i:=y1.length+(y2.length+(y3.length+1)+1)+1+1);rw [this];have e:Blk.cells (List.map V.d s.c)::Blk.cells []::(y1++Blk.cells []::(y2++Blk.cells []::(y3++[Blk.cells [v1,v2,v3]])))=(Blk.cells (List.map V.d s.c)::Blk.cells []::(y1++Blk.cells []::(y2++Blk.cells []::y3)))++[Blk.cells [v1,v2,v3]]:=by simp
   unfold af;rw [e,bk (by simp<;>omega)];have:y1.length+(y2.length+(y3.length+1)+1)+1+1-(Blk.cells (List.map V.d s.c)::Blk.cells []::(y1++Blk.cells []::(y2++Blk.cells []::y3))).length=0:=by simp<;>omega
   rw [this]; rfl
  have hlow:∀ B n' c,v=.row B 0 n' c 3->B<bs.length:=fun B n' c hv=>by
   rcases hA with ⟨_,_,rfl⟩ | ⟨_,B',cs,_,rfl,hb,_⟩
   · simp at hv
   · simp at hv; rw [← hv.1]; exact aI hb
  obtain ⟨v',bs',F,ha,hA',hL',hlo',hF⟩:=hAH.app (by decide) (by_:=72) (by decide) (cb hlt hr.1.1.1) (vs:=[v1,v2,v3]) rfl (cap:=some 1) hHr (L2:=bs.length) hk3 hlow hvs (by omega);have hb':∀ x,x<L->bs'[x]?=bs[x]?:=fun x hx=>by rw [hlo' x hx,hHp x (by omega)]
  have hx2:af bs' 2=some [v,vT,vW]:=by rw [← hK.x0]; unfold af; rw [hb' 2 (by omega)]
  have hx2H:af H 2=some [v,vT,vW]:=by rw [← hK.x0]; unfold af; rw [hHp 2 (by omega)]
  obtain ⟨bs2,lo2,v2',r1,r2,r3⟩:=ih (i+1) (bs'.set 2 (.cells [v',vT,vW])) (min (F (min lo bs.length)) 2) v' (by omega)
   ⟨by rw [← hK.r0]; unfold af; rw [am (by decide),hb' 0 (by omega)],by rw [← hK.a0]; unfold af; rw [am (by decide),hb' 1 (by omega)],by
    have:=aI hx2;simp [af,this],hL3,by simp; omega,fun x h1 h2=>by rw [am (by omega),hb' x h1,hK.old x h1 h2]⟩
   (by
     rw [htk,List.map_append,List.flatten_append];simp only [cm,List.map_nil,List.flatten_cons,List.flatten_nil,List.append_nil];exact hA'.on (by simp) fun x hx _=>am (by omega))
  refine ⟨bs2,lo2,v2',?_,r2,r3⟩
  · rw [key];have q1:=a1 (min lo bs.length);have q2:=a2 (min lo bs.length);have q3:=a3 (min lo bs.length);have ha':=ha (min lo bs.length);simp at q1 q2 q3;simp [tJ,hK.r0,hr1,h0,hsx,hnu,ai,av,aH,hK.x0,ax hK.x0,q1,q2,q3,b1,b2,b3,c1,c2,c3,← hH,ha',hx2,hx2H,hA'.cl];rw [if_pos]
    · simp [hw];exact r1
    · have hHn:H.length=bs.length+(y1.length+(y2.length+(y3.length+1)+1)+1+1)+1:=by rw [hH]; simp<;>omega
      have hne:¬ bs=[]:=fun h=>by rw [h] at hk3; simp at hk3; omega
      rcases hA.blk with hb | ⟨B,hb,hB,hBl⟩<;>rw [hb]
      · simp [aT,List.range,List.range.loop,Tr.spares,hne];omega
      · simp [aT,List.range,List.range.loop,Tr.spares,hne];omega
theorem Rj (r:Rule)(hr:r.fits big)(vF vW:V)(L:Nat)(B0:List Blk):∀ (m i:Nat) (bs:List Blk) (lo:Nat) (v:V),i+m=r.to.l.length->K3 r [vF,v,vW] L B0 bs->AccV false L 4 1 i ((r.to.l.take i).map fun s=>s.cp.c).flatten bs v →
 ∃ bs' lo' v',Cd E TX aM (.loop [1,2,3,6] tK) [(1,.ptr 0 0),(2,.ptr 1 0),(3,.ptr 2 0),(6,.d (i64 i))] ⟨bs,lo⟩=some (.exit 2,[(1,.ptr 0 0),(2,.ptr 1 0),(3,.ptr 2 0)],⟨bs',lo'⟩)/\K3 r [vF,v',vW] L B0 bs'/\AccV false L 4 1 r.to.l.length (r.to.l.map fun s=>s.cp.c).flatten bs' v':=by
 intro m;have hlen:=hr.2.1.1.lt;have key:=aC (E:=E) (T:=TX) (val:=aM) [1,2,3,6] tK;generalize Cd E TX aM (.loop [1,2,3,6] tK)=W at key ⊢
 induction m with
 | zero =>
  intro i bs lo v hi hK hA;have:i=r.to.l.length:=by omega
  subst this;rw [List.take_length] at hA;refine ⟨bs,lo,v,?_,hK,hA⟩;rw [key];simp [tK,hK.r0]
 | succ m ih =>
  intro i bs lo v hi hK hA;have hlt:i<r.to.l.length:=by omega
  have hx:=ac hlt;have hmem:=bh hlt;have htk:r.to.l.take (i+1)=r.to.l.take i++[r.to.l[i]]:=by rw [List.take_add_one,hx]; rfl
  generalize r.to.l[i]=s at *;have hfs:=hr.2.1.2 s hmem;have hsx:=fun h=>ay (z:=4) h hx (cells:=Target.c) rfl;have hw:=ak hlt hlen;have h0:((i:Int)<r.to.l.length):=by omega
  have hnu:=hA.nu;have hL3:=hK.L3;have hk3:=hK.len;have hr1:=ax (ys:=[.cells (s.c.map .d)]) hK.r0;obtain ⟨v1,y1,a1,b1,c1,d1⟩:=cpy (cells:=gV) (z:=1) (by_:=8) (fun _=>rfl) (by decide) (by decide) hfs.1 (bs++[.cells (s.c.map .d)]);obtain ⟨v2,y2,a2,b2,c2,d2⟩:=cpy (cells:=Term.c) (z:=2) (by_:=24) (fun _=>rfl) (by decide) (by decide) hfs.2.1 (bs++[.cells (s.c.map .d)]++([.cells []]++y1));obtain ⟨v3,y3,a3,b3,c3,d3⟩:=cpy (cells:=Term.c) (z:=2) (by_:=24) (fun _=>rfl) (by decide) (by decide) hfs.2.2.1 (bs++[.cells (s.c.map .d)]++([.cells []]++y1)++([.cells []]++y2));obtain ⟨v4,y4,a4,b4,c4,d4⟩:=cpy (cells:=Term.c) (z:=2) (by_:=24) (fun _=>rfl) (by decide) (by decide) hfs.2.2.2 (bs++[.cells (s.c.map .d)]++([.cells []]++y1)++([.cells []]++y2)++([.cells []]++y3));obtain ⟨H,hH⟩:∃ H,H=bs++Blk.cells (List.map V.d s.c)::Blk.cells []::(y1++Blk.cells []::(y2++Blk.cells []::(y3++Blk.cells []::(y4++[Blk.cells [v1,v2,v3,v4]])))):=⟨_,rfl⟩;have g1:=d1.ext (L':=bs.length) (([.cells []]++y2)++([.cells []]++y3)++([.cells []]++y4)++[.cells [v1,v2,v3,v4]]) (by simp);have g2:=d2.ext (L':=bs.length) (([.cells []]++y3)++([.cells []]++y4)++[.cells [v1,v2,v3,v4]]) (by simp);have g3:=d3.ext (L':=bs.length) (([.cells []]++y4)++[.cells [v1,v2,v3,v4]]) (by simp);have g4:=d4.ext (L':=bs.length) ([.cells [v1,v2,v3,v4]]) (by simp)
  have G1:Hng false (KL bs.length H) H v1 (.slice false (s.ports.l.map gV)) 1:=by rw [hH]; simpa using g1
  have G2:Hng false (KL bs.length H) H v2 (.slice false (s.methods.l.map Term.c)) 1:=by rw [hH]; simpa using g2
  have G3:Hng false (KL bs.length H) H v3 (.slice false (s.paths.l.map Term.c)) 1:=by rw [hH]; simpa using g3
  have G4:Hng false (KL bs.length H) H v4 (.slice false (s.hosts.l.map Term.c)) 1:=by rw [hH]; simpa using g4
  have hvs:Hngs false (KL bs.length H) H 1 [v1,v2,v3,v4] s.cp.c:=⟨G1,G2,G3,G4,trivial⟩;have hHp:∀ x,x<bs.length->H[x]?=bs[x]?:=fun x hx=>by rw [hH,ao hx]
  have hHl:bs.length<=H.length:=by rw [hH]; simp
  have hAH:=hA.on hHl fun x _ hx=>hHp x hx;have hHr:af H (bs.length+(y1.length+(y2.length+(y3.length+(y4.length+1)+1)+1)+1+1))=some [v1,v2,v3,v4]:=by
   rw [hH];have:=gD (bs:=bs) (ys:=Blk.cells (List.map V.d s.c)::Blk.cells []::(y1++Blk.cells []::(y2++Blk.cells []::(y3++Blk.cells []::(y4++[Blk.cells [v1,v2,v3,v4]]))))) (i:=y1.length+(y2.length+(y3.length+(y4.length+1)+1)+1)+1+1);rw [this];have e:Blk.cells (List.map V.d s.c)::Blk.cells []::(y1++Blk.cells []::(y2++Blk.cells []::(y3++Blk.cells []::(y4++[Blk.cells [v1,v2,v3,v4]]))))=(Blk.cells (List.map V.d s.c)::Blk.cells []::(y1++Blk.cells []::(y2++Blk.cells []::(y3++Blk.cells []::y4))))++[Blk.cells [v1,v2,v3,v4]]:=by simp
   unfold af;rw [e,bk (by simp<;>omega)];have:y1.length+(y2.length+(y3.length+(y4.length+1)+1)+1)+1+1-(Blk.cells (List.map V.d s.c)::Blk.cells []::(y1++Blk.cells []::(y2++Blk.cells []::(y3++Blk.cells []::y4)))).length=0:=by simp<;>omega
   rw [this]; rfl
  have hlow:∀ B n' c,v=.row B 0 n' c 4->B<bs.length:=fun B n' c hv=>by
   rcases hA with ⟨_,_,rfl⟩ | ⟨_,B',cs,_,rfl,hb,_⟩
   · simp at hv
   · simp at hv; rw [← hv.1]; exact aI hb
  obtain ⟨v',bs',F,ha,hA',hL',hlo',hF⟩:=hAH.app (by decide) (by_:=96) (by decide) (cb hlt hr.2.1.1.1) (vs:=[v1,v2,v3,v4]) rfl (cap:=some 1) hHr (L2:=bs.length) hk3 hlow hvs (by omega);have hb':∀ x,x<L->bs'[x]?=bs[x]?:=fun x hx=>by rw [hlo' x hx,hHp x (by omega)]
  have hx2:af bs' 2=some [vF,v,vW]:=by rw [← hK.x0]; unfold af; rw [hb' 2 (by omega)]
  have hx2H:af H 2=some [vF,v,vW]:=by rw [← hK.x0]; unfold af; rw [hHp 2 (by omega)]
  obtain ⟨bs2,lo2,v2',r1,r2,r3⟩:=ih (i+1) (bs'.set 2 (.cells [vF,v',vW])) (min (F (min lo bs.length)) 2) v' (by omega)
   ⟨by rw [← hK.r0]; unfold af; rw [am (by decide),hb' 0 (by omega)],by rw [← hK.a0]; unfold af; rw [am (by decide),hb' 1 (by omega)],by
    have:=aI hx2;simp [af,this],hL3,by simp; omega,fun x h1 h2=>by rw [am (by omega),hb' x h1,hK.old x h1 h2]⟩
   (by
     rw [htk,List.map_append,List.flatten_append];simp only [cm,List.map_nil,List.flatten_cons,List.flatten_nil,List.append_nil];exact hA'.on (by simp) fun x hx _=>am (by omega))
  refine ⟨bs2,lo2,v2',?_,r2,r3⟩
  · rw [key];have q1:=a1 (min lo bs.length);have q2:=a2 (min lo bs.length);have q3:=a3 (min lo bs.length);have q4:=a4 (min lo bs.length);have ha':=ha (min lo bs.length);simp at q1 q2 q3 q4;simp [tK,hK.r0,hr1,h0,hsx,hnu,ai,av,aH,hK.x0,ax hK.x0,q1,q2,q3,q4,b1,b2,b3,b4,c1,c2,c3,c4,← hH,ha',hx2,hx2H,hA'.cl];rw [if_pos]
    · simp [hw];exact r1
    · have hHn:H.length=bs.length+(y1.length+(y2.length+(y3.length+(y4.length+1)+1)+1)+1+1)+1:=by rw [hH]; simp<;>omega
      have hne:¬ bs=[]:=fun h=>by rw [h] at hk3; simp at hk3; omega
      rcases hA.blk with hb | ⟨B,hb,hB,hBl⟩<;>rw [hb]
      · simp [aT,List.range,List.range.loop,Tr.spares,hne];omega
      · simp [aT,List.range,List.range.loop,Tr.spares,hne];omega
theorem Rk (r:Rule)(hr:r.fits big)(vF vT:V)(L:Nat)(B0:List Blk):∀ (m i:Nat) (bs:List Blk) (lo:Nat) (v:V),i+m=r.whn.l.length->K3 r [vF,vT,v] L B0 bs->AccV false L 2 1 i ((r.whn.l.take i).map fun s=>s.cp.c).flatten bs v →
 ∃ bs' lo' v',Cd E TX aM (.loop [1,2,3,8] tL) [(1,.ptr 0 0),(2,.ptr 1 0),(3,.ptr 2 0),(8,.d (i64 i))] ⟨bs,lo⟩=some (.exit 4,[(2,.ptr 1 0),(3,.ptr 2 0)],⟨bs',lo'⟩)/\K3 r [vF,vT,v'] L B0 bs'/\AccV false L 2 1 r.whn.l.length (r.whn.l.map fun s=>s.cp.c).flatten bs' v':=by
 intro m;have hlen:=hr.2.2.1.lt;have key:=aC (E:=E) (T:=TX) (val:=aM) [1,2,3,8] tL;generalize Cd E TX aM (.loop [1,2,3,8] tL)=W at key ⊢
 induction m with
 | zero =>
  intro i bs lo v hi hK hA;have:i=r.whn.l.length:=by omega
  subst this;rw [List.take_length] at hA;refine ⟨bs,lo,v,?_,hK,hA⟩;rw [key];simp [tL,hK.r0]
 | succ m ih =>
  intro i bs lo v hi hK hA;have hlt:i<r.whn.l.length:=by omega
  have hx:=ac hlt;have hmem:=bh hlt;have htk:r.whn.l.take (i+1)=r.whn.l.take i++[r.whn.l[i]]:=by rw [List.take_add_one,hx]; rfl
  generalize r.whn.l[i]=s at *;have hfs:=hr.2.2.2 s hmem;have hsx:=fun h=>ay (z:=2) h hx (cells:=When.c) rfl;have hw:=ak hlt hlen;have h0:((i:Int)<r.whn.l.length):=by omega
  have hnu:=hA.nu;have hL3:=hK.L3;have hk3:=hK.len;have hr1:=ax (ys:=[.cells []]) hK.r0;obtain ⟨v1,y1,a1,b1,c1,d1⟩:=cpy (cells:=Term.c) (z:=2) (by_:=24) (fun _=>rfl) (by decide) (by decide) hfs (bs);obtain ⟨H,hH⟩:∃ H,H=bs++Blk.cells []::(y1++[Blk.cells [V.d (D.str s.head),v1]]):=⟨_,rfl⟩;have g1:=d1.ext (L':=bs.length) ([.cells [.d (.str s.head),v1]]) (by simp);have G1:Hng false (KL bs.length H) H v1 (.slice false (s.terms.l.map Term.c)) 1:=by rw [hH]; simpa using g1
  have hvs:Hngs false (KL bs.length H) H 1 [.d (.str s.head),v1] s.cp.c:=⟨Hng.d fun nl c cs hh=>by simp at hh,G1,trivial⟩;have hHp:∀ x,x<bs.length->H[x]?=bs[x]?:=fun x hx=>by rw [hH,ao hx]
  have hHl:bs.length<=H.length:=by rw [hH]; simp
  have hAH:=hA.on hHl fun x _ hx=>hHp x hx;have hHr:af H (bs.length+(y1.length+1))=some [.d (.str s.head),v1]:=by
   rw [hH];have:=gD (bs:=bs) (ys:=Blk.cells []::(y1++[Blk.cells [V.d (D.str s.head),v1]])) (i:=y1.length+1);rw [this];have e:Blk.cells []::(y1++[Blk.cells [V.d (D.str s.head),v1]])=(Blk.cells []::y1)++[Blk.cells [V.d (D.str s.head),v1]]:=by simp
   unfold af;rw [e,bk (by simp<;>omega)];have:y1.length+1-(Blk.cells []::y1).length=0:=by simp<;>omega
   rw [this]; rfl
  have hlow:∀ B n' c,v=.row B 0 n' c 2->B<bs.length:=fun B n' c hv=>by
   rcases hA with ⟨_,_,rfl⟩ | ⟨_,B',cs,_,rfl,hb,_⟩
   · simp at hv
   · simp at hv; rw [← hv.1]; exact aI hb
  obtain ⟨v',bs',F,ha,hA',hL',hlo',hF⟩:=hAH.app (by decide) (by_:=40) (by decide) (cb hlt hr.2.2.1.1) (vs:=[.d (.str s.head),v1]) rfl (cap:=some 1) hHr (L2:=bs.length) hk3 hlow hvs (by omega);have hb':∀ x,x<L->bs'[x]?=bs[x]?:=fun x hx=>by rw [hlo' x hx,hHp x (by omega)]
  have hx2:af bs' 2=some [vF,vT,v]:=by rw [← hK.x0]; unfold af; rw [hb' 2 (by omega)]
  have hx2H:af H 2=some [vF,vT,v]:=by rw [← hK.x0]; unfold af; rw [hHp 2 (by omega)]
  obtain ⟨bs2,lo2,v2',r1,r2,r3⟩:=ih (i+1) (bs'.set 2 (.cells [vF,vT,v'])) (min (F lo) 2) v' (by omega)
   ⟨by rw [← hK.r0]; unfold af; rw [am (by decide),hb' 0 (by omega)],by rw [← hK.a0]; unfold af; rw [am (by decide),hb' 1 (by omega)],by
    have:=aI hx2;simp [af,this],hL3,by simp; omega,fun x h1 h2=>by rw [am (by omega),hb' x h1,hK.old x h1 h2]⟩
   (by
     rw [htk,List.map_append,List.flatten_append];simp only [cm,List.map_nil,List.flatten_cons,List.flatten_nil,List.append_nil];exact hA'.on (by simp) fun x hx _=>am (by omega))
  refine ⟨bs2,lo2,v2',?_,r2,r3⟩
  · rw [key];have q1:=a1 lo;have ha':=ha lo;simp at q1;simp [tL,hK.r0,hr1,h0,hsx,hnu,ai,av,aH,hK.x0,ax hK.x0,q1,b1,c1,← hH,ha',hx2,hx2H,hA'.cl];rw [if_pos]
    · simp [hw];exact r1
    · have hHn:H.length=bs.length+(y1.length+1)+1:=by rw [hH]; simp<;>omega
      have hne:¬ bs=[]:=fun h=>by rw [h] at hk3; simp at hk3; omega
      rcases hA.blk with hb | ⟨B,hb,hB,hBl⟩<;>rw [hb]
      · simp [aT,List.range,List.range.loop,Tr.spares,hne];omega
      · simp [aT,List.range,List.range.loop,Tr.spares,hne];omega
end
section
variable {E:Calls'}
theorem K3.next {r:Rule}{ws:List V}{L:Nat}{B0 bs:List Blk}(h:K3 r ws L B0 bs):K3 r ws bs.length bs bs:=⟨h.r0,h.a0,h.x0,ce h.L3 h.len,bp _,fun _ _ _=>rfl⟩
theorem AccV.old {r:Rule}{ws:List V}{L0 z k n:Nat}{ds:List D}{B0 bs:List Blk}{v:V}(h:AccV false L0 z k n ds B0 v)(hK:K3 r ws B0.length B0 bs)(h3:3<=L0):AccV false L0 z k n ds bs v :=
 h.on hK.len fun x hx hl=>hK.old x hl (by omega)
theorem Rule.cp_c (r:Rule):r.cp.c=[.slice (r.frm.l.map fun s=>s.cp.c).isEmpty (r.frm.l.map fun s=>s.cp.c),.slice (r.to.l.map fun s=>s.cp.c).isEmpty (r.to.l.map fun s=>s.cp.c),.slice (r.whn.l.map fun s=>s.cp.c).isEmpty (r.whn.l.map fun s=>s.cp.c)]:=by
 simp [Rule.cp,Rule.c,Sl.d,gp,cj]
theorem x89:TX 19=some q89:=by kernel_rfl
theorem w89:aM 19=true:=by kernel_rfl
theorem S89 (r:Rule)(hr:r.fits big)(h:Hp):Sm E TX aM 19 [ag r.c] h=some (ag r.cp.c,h):=by
 have hK:K3 r [.d (.slice true []),.d (.slice true []),.d (.slice true [])] 3 [.cells (r.c.map .d),.cells [.d (.slice true []),.d (.slice true []),.d (.slice true [])],.cells [.d (.slice true []),.d (.slice true []),.d (.slice true [])]] [.cells (r.c.map .d),.cells [.d (.slice true []),.d (.slice true []),.d (.slice true [])],.cells [.d (.slice true []),.d (.slice true []),.d (.slice true [])]]:=⟨rfl,rfl,rfl,by decide,by simp,fun _ _ _=>rfl⟩;obtain ⟨bs1,lo1,v1,a1,k1,A1⟩:=Ri (E:=E) r hr _ _ _ _ r.frm.l.length 0 _ 0 _ (by omega) hK (by simpa using AccV.nil 3 3 1 _);obtain ⟨bs2,lo2,v2,a2,k2,A2⟩:=Rj (E:=E) r hr _ _ _ _ r.to.l.length 0 _ lo1 _ (by omega) k1.next (by simpa using AccV.nil bs1.length 4 1 _);obtain ⟨bs3,lo3,v3,a3,k3,A3⟩:=Rk (E:=E) r hr _ _ _ _ r.whn.l.length 0 _ lo2 _ (by omega) k2.next (by simpa using AccV.nil bs2.length 2 1 _);have h1:=k1.len; have h2:=k2.len; have h3:=k3.len;have B1:=(A1.old k2 (by omega)).old k3 (by omega);have B2:=A2.old k3 (by omega);have G1:=B1.hng (fun e he=>by obtain ⟨y,_,rfl⟩:=b9.1 he; rfl) (by simp);have G2:=B2.hng (fun e he=>by obtain ⟨y,_,rfl⟩:=b9.1 he; rfl) (by simp);have G3:=A3.hng (fun e he=>by obtain ⟨y,_,rfl⟩:=b9.1 he; rfl) (by simp);have c1:=B1.cl; have c2:=B2.cl; have c3:=A3.cl;have n1:=B1.nu; have n2:=B2.nu; have n3:=A3.nu;have e1:=fun lo=>(G1 (bs3.set 1 (.cells [v1,v2,v3])) lo (fun x hx=>am (by have:=hx.1; omega)) 8 (by omega)).1
 have e2:=fun lo=>(G2 (bs3.set 1 (.cells [v1,v2,v3])) lo (fun x hx=>am (by have:=hx.1; omega)) 8 (by omega)).1;have e3:=fun lo=>(G3 (bs3.set 1 (.cells [v1,v2,v3])) lo (fun x hx=>am (by have:=hx.1; omega)) 8 (by omega)).1;have ha3:=k3.a0; have hx3:=k3.x0;have hl3:=aI ha3;have hset:af (bs3.set 1 (.cells [v1,v2,v3])) 1=some [v1,v2,v3]:=by simp [af,hl3]
 rw [aV x89 w89,Rule.cp_c];have a1':=a1; have a2':=a2; have a3':=a3;simp at a1' a2' a3';simp [ae,q89];rw [au];simp [a1'];rw [au];simp [a2'];rw [au];simp [a3',ha3,hx3,c1,c2,c3,n1,n2,n3,hl3,bW,e1,e2,e3,hset]
theorem lH {T:FuncId->Option QF}{val:FuncId->Bool}{keep:List Nat}{body:QC}{base:List Blk}{z:Nat}(n:Nat)(G:Nat->List (List D))(env:Nat->V->EA)(X:V->Ex×EA)
 (hr:∀ i,i<n->∀ bs lo v,Acc base z (G i) bs v->∃ bs' lo' v',Acc base z (G (i+1)) bs' v'/\∀ W:EA->Hp->fZ,eD keep W (Cd E T val body (bU keep (env i v)) ⟨bs,lo⟩)=W (env (i+1) v') ⟨bs',lo'⟩)
 (he:∀ bs lo v,Acc base z (G n) bs v->∀ W:EA->Hp->fZ,eD keep W (Cd E T val body (bU keep (env n v)) ⟨bs,lo⟩)=some ((X v).1,(X v).2,⟨bs,lo⟩)) (bs:List Blk) (lo:Nat) (v:V) (h0:Acc base z (G 0) bs v) :
 ∃ bs' lo' v',Cd E T val (.loop keep body) (env 0 v) ⟨bs,lo⟩=some ((X v').1,(X v').2,⟨bs',lo'⟩)/\Acc base z (G n) bs' v':=by
 have:∀ (m i:Nat) (bs:List Blk) (lo:Nat) (v:V),i+m=n->Acc base z (G i) bs v->∃ bs' lo' v',Cd E T val (.loop keep body) (env i v) ⟨bs,lo⟩=some ((X v').1,(X v').2,⟨bs',lo'⟩)/\Acc base z (G n) bs' v':=by
  intro m;have key:=aC (E:=E) (T:=T) (val:=val) keep body;generalize Cd E T val (.loop keep body)=W at key ⊢
  induction m with
  | zero =>
   intro i bs lo v hi hP;rw [show i=n by omega] at hP ⊢;exact ⟨bs,lo,v,by rw [key,he bs lo v hP W],hP⟩
  | succ m ih =>
   intro i bs lo v hi hP;obtain ⟨bs',lo',v',h1,h2⟩:=hr i (by omega) bs lo v hP;obtain ⟨bs2,lo2,v2,h3,h4⟩:=ih (i+1) bs' lo' v' (by omega) h1;exact ⟨bs2,lo2,v2,by rw [key,h2 W,h3],h4⟩
 exact this n 0 bs lo v (by omega) h0
def Pol.cp (p:Pol):Pol:={ p with rules:=gp (p.rules.l.map Rule.cp) }
theorem Pol.cp_c (p:Pol):p.cp.c=[u64 p.id,.str p.ns,u64 p.service,i64 p.deny,.slice (p.rules.l.map fun r=>r.cp.c).isEmpty (p.rules.l.map fun r=>r.cp.c)]:=by
 simp [Pol.cp,Pol.c,Sl.d,gp,cj]
theorem x35:TX 8=some q35:=by kernel_rfl
theorem w35:aM 8=true:=by kernel_rfl
theorem L35 (p:Pol)(hp:p.fits big)(base:List Blk)(hb:af base 0=some (p.c.map .d))(lo:Nat):∃ bs' lo' v',Cd E TX aM (.loop [1,2,3,4] wO) [(1,.ptr 0 0),(2,.ptr 1 0),(3,.d (.slice true [])),(4,.d (i64 0))] ⟨base,lo⟩=some (.exit 0,[(1,.ptr 0 0),(2,.ptr 1 0),(3,v')],⟨bs',lo'⟩)/\Acc base 3 (p.rules.l.map fun r=>r.cp.c) bs' v':=by
 have hlen:=hp.1.lt;have key:=lH (E:=E) (T:=TX) (val:=aM) (base:=base) (z:=3) (keep:=[1,2,3,4]) (body:=wO) p.rules.l.length (fun i=>(p.rules.l.take i).map fun r=>r.cp.c) (fun i v=>[(1,.ptr 0 0),(2,.ptr 1 0),(3,v),(4,.d (i64 i))]) (fun v=>(.exit 0,[(1,.ptr 0 0),(2,.ptr 1 0),(3,v)])) (fun i hi bs lo v hA=>?_) (fun bs lo v hA W=>?_) base lo _ (by simpa using Acc.nil base 3)
 · simpa using key
 · have hx:=ac hi;have hmem:=bh hi;have htk:p.rules.l.take (i+1)=p.rules.l.take i++[p.rules.l[i]]:=by rw [List.take_add_one,hx]; rfl
   generalize p.rules.l[i]=r at *;have hsx:=fun h=>ay (z:=3) h hx (cells:=Rule.c) rfl;have hw:=ak hi hlen;have h0:((i:Int)<p.rules.l.length):=by omega
   have hnu:=hA.nu;have hg:=hA.get hb;have hcall:=fun h=>S89 (E:=E) r (hp.2 r hmem) h;obtain ⟨v',bs',lo',ha,hA'⟩:=(hA.lay [.cells (r.cp.c.map .d)]).app (by decide) (by_:=72) (by decide) (e:=r.cp.c) rfl (by simp; have:=hp.1.1; omega) lo (r:=bs.length) (cap:=some 1) (by simp);refine ⟨bs',lo',v',by rw [htk,List.map_append]; exact hA',fun W=>?_⟩;simp [wO,hg,h0,hsx,hnu,hcall,aH,ha,hw,hA'.nu]
 · simp [wO,hA.get hb]
theorem Acc.hng {base:List Blk}{z:Nat}{acc:List (List D)}{bs:List Blk}{v:V}(h:Acc base z acc bs v):Hng false (KL base.length bs) bs v (.slice acc.isEmpty acc) 1:=by
 rcases h.is with ⟨rfl,rfl⟩ | ⟨h1,b,h2,rfl,h4⟩
 · exact Hng.data
 · rw [show acc.isEmpty=false by cases acc with | nil=>exact absurd rfl h1 | cons _ _=>rfl];exact Hng.row (k:=0) ⟨h2,aI h4⟩ h4 Hngs.data h.wid rfl
theorem Acc.cl {base:List Blk}{z:Nat}{acc:List (List D)}{bs:List Blk}{v:V}(h:Acc base z acc bs v):v.cells=some [v]:=by
 rcases h.is with ⟨_,rfl⟩ | ⟨_,b,_,rfl,_⟩<;>rfl
theorem S35 (p:Pol)(hp:p.fits big)(h:Hp):Sm E TX aM 8 [ag p.c] h=some (ag p.cp.c,h):=by
 obtain ⟨bs,lo,v,a1,A⟩:=L35 (E:=E) p hp [.cells (p.c.map .d),.cells [.d (.int .u64 0),.d (.str ⟨#[]⟩),.d (.int .u64 0),.d (i64 0),.d (.slice true [])]] rfl 0;have hg:=A.get (x:=0) (cs:=p.c.map .d) rfl;have hg1:=A.get (x:=1) rfl;have hnu:=A.nu;rw [aV x35 w35,Pol.cp_c];simp [ae,q35];rw [au];have hcl:=A.cl;have hl:=A.len;simp at hl;have hl0:0<bs.length:=by omega
 have hl1:1<bs.length:=by omega
 have e1:=fun lo=>(A.hng ((bs.set 0 (.cells [.d (u64 p.id),.d (.str p.ns),.d (u64 p.service),.d (i64 p.deny),v])).set 1 (.cells [.d (u64 p.id),.d (.str p.ns),.d (u64 p.service),.d (i64 p.deny),v])) lo (fun x hx=>by have:=hx.1; simp at this; rw [am (by omega),am (by omega)]) 8 (by omega)).1;have h0:af (bs.set 0 (.cells [.d (u64 p.id),.d (.str p.ns),.d (u64 p.service),.d (i64 p.deny),v])) 0=some [.d (u64 p.id),.d (.str p.ns),.d (u64 p.service),.d (i64 p.deny),v]:=by
  simp [af,hl0,hl1]
 have h1:af (bs.set 0 (.cells [.d (u64 p.id),.d (.str p.ns),.d (u64 p.service),.d (i64 p.deny),v])) 1=some [.d (.int .u64 0),.d (.str ⟨#[]⟩),.d (.int .u64 0),.d (i64 0),.d (.slice true [])]:=by
  rw [← hg1]; unfold af; rw [am (by decide)]
 have h2:af ((bs.set 0 (.cells [.d (u64 p.id),.d (.str p.ns),.d (u64 p.service),.d (i64 p.deny),v])).set 1 (.cells [.d (u64 p.id),.d (.str p.ns),.d (u64 p.service),.d (i64 p.deny),v])) 1=some [.d (u64 p.id),.d (.str p.ns),.d (u64 p.service),.d (i64 p.deny),v]:=by
  simp [af,hl0,hl1]
 simp [a1];simp [hg,hg1,hnu,hcl,Pol.c,h0,h1,h2,bW,e1]
end
section
variable {E:Calls'}
def jN {α:Type}(id:α->Int)(x:α)(pl:Bool)(y:α):List α:=(if !pl&&decide (id y>=id x) then [x] else [])++(if id y≠id x then [y] else [])
def dL {α:Type}(id:α->Int)(x:α):Bool->List α->List α
 | _,[]=>[]
 | pl,y::l=>jN id x pl y++dL id x (pl||decide (id y>=id x)) l
theorem rD {α:Type}(id:α->Int)(x y:α):∀ (l:List α) (pl:Bool),dL id x pl (l++[y])=dL id x pl l++jN id x (pl||l.any fun z=>decide (id z>=id x)) y
 | [],pl=>by simp [dL]
 | z::l,pl=>by
  rw [List.cons_append,dL,dL,rD id x y l,List.append_assoc,List.any_cons,Bool.or_assoc]
theorem nL {α:Type}(id:α->Int)(x:α):∀ (l:List α) (pl:Bool),(dL id x pl l).length<=l.length+(if pl then 0 else 1)
 | [],pl=>by simp [dL]
 | z::l,pl=>by
  have:=nL id x l (pl||decide (id z>=id x));rw [dL,jN,ap,ap,cf];cases pl<;>by_cases h1:id z>=id x<;>by_cases h2:id z≠id x<;>simp [h1,h2] at this ⊢<;>omega
theorem iP {α:Type}(id:α->Int)(x:α):∀ (l:List α),(l.any fun z=>decide (id z>=id x))=false->dL id x false l=l
 | [],_=>rfl
 | y::l,h=>by
  simp only [List.any_cons,Bool.or_eq_false_iff,decide_eq_false_iff_not] at h;have h2:id y≠id x:=by omega
  rw [dL,jN,show (false||decide (id y>=id x))=false by simpa using h.1,iP id x l h.2];simp [h.1,h2]
def cB {α:Type}(id:α->Int)(x:α)(l:List α):List α:=dL id x false l++(if (l.any fun z=>decide (id z>=id x)) then [] else [x])
theorem zt {α:Type}(id:α->Int)(x:α)(l:List α):cB id x l≠[]:=by
 have:∀ (l:List α),(l.any fun z=>decide (id z>=id x))=true->dL id x false l≠[]:=by
  intro l
  induction l with
  | nil=>simp
  | cons y l ih =>
   intro h;rw [dL,jN];by_cases h1:id y>=id x
   · simp [h1]
   · have h2:id y≠id x:=by omega
     simp [h2]
 unfold cB;cases h:(l.any fun z=>decide (id z>=id x)) with
 | true=>simpa using this l h
 | false=>simp
theorem Acc.ownR {base:List Blk}{z:Nat}{acc:List (List D)}{bs:List Blk}{v:V}(h:Acc base z acc bs v)(hd:∀ e∈acc,∀ d∈e,∀ nl c cs,d≠.slice nl (c::cs))(lo:Nat):ownR ⟨bs,lo⟩ v=true:=by
 have hH:Hng true (KL base.length bs) bs v (.slice acc.isEmpty acc) 1:=by
  rcases h.is with ⟨rfl,rfl⟩ | ⟨h1,b,h2,rfl,h4⟩
  · exact Hng.d fun nl c cs hh=>by simp at hh
  · rw [show acc.isEmpty=false by cases acc with | nil=>exact absurd rfl h1 | cons _ _=>rfl];refine Hng.row (k:=0) ⟨h2,aI h4⟩ h4 ?_ h.wid rfl;have:∀ ds:List D,(∀ d∈ds,∀ nl c cs,d≠.slice nl (c::cs))->Hngs true (KL base.length bs) bs 0 (ds.map .d) ds:=by
     intro ds
     induction ds with
     | nil=>intro _; trivial
     | cons d ds ih=>intro hh; exact ⟨Hng.d (hh d (by simp)),ih fun d hd=>hh d (by simp [hd])⟩
    exact this _ fun d hdm=>by
     obtain ⟨e,he,hde⟩:=List.mem_flatten.1 hdm;exact hd e he d hde
 have:=(hH bs lo (fun _ _=>rfl) 8 (by omega)).2 rfl;rcases h.is with ⟨rfl,rfl⟩ | ⟨h1,b,h2,rfl,h4⟩
 · exact this
 · exact this
theorem bg1:TX 79=some Pj:=by kernel_rfl
theorem bc8:aM 79=true:=by kernel_rfl
theorem Xv (s:Sl Svc)(hs:short s)(hsl:s.l.length<big)(x:Svc):∃ bs' lo' v',Cd E TX aM (.loop [0,3,5,6,7] jX) [(0,.d (s.d Svc.c)),(3,.ptr 0 0),(5,.d (.slice true [])),(6,bl false),(7,.d (i64 0))] ⟨[.cells (x.c.map .d)],0⟩=some (.exit 0,[(3,.ptr 0 0),(5,v'),(6,bl (s.l.any fun z=>decide (Svc.id z>=Svc.id x)))],⟨bs',lo'⟩)/\Acc [.cells (x.c.map .d)] 5 ((dL Svc.id x false s.l).map Svc.c) bs' v':=by
 have hlen:=hs.lt;have hb:af [Blk.cells (x.c.map .d)] 0=some (x.c.map .d):=rfl;have key:=lH (E:=E) (T:=TX) (val:=aM) (base:=[Blk.cells (x.c.map .d)]) (z:=5) (keep:=[0,3,5,6,7]) (body:=jX) s.l.length (fun i=>(dL Svc.id x false (s.l.take i)).map Svc.c) (fun i v=>[(0,.d (s.d Svc.c)),(3,.ptr 0 0),(5,v),(6,bl ((s.l.take i).any fun z=>decide (Svc.id z>=Svc.id x))),(7,.d (i64 i))]) (fun v=>(.exit 0,[(3,.ptr 0 0),(5,v),(6,bl (s.l.any fun z=>decide (Svc.id z>=Svc.id x)))])) (fun i hi bs lo v hA=>?_) (fun bs lo v hA W=>?_) [Blk.cells (x.c.map .d)] 0 _ (by simpa [dL] using Acc.nil [Blk.cells (x.c.map .d)] 5)
 · simpa using key
 · have hx:=ac hi;have htk:s.l.take (i+1)=s.l.take i++[s.l[i]]:=by rw [List.take_add_one,hx]; rfl
   have hplen:=nL Svc.id x (s.l.take i) false;simp only [List.length_take,bm,if_false] at hplen;rw [htk,rD,List.map_append,List.any_append];generalize s.l[i]=y at *;have hsx:=fun h=>ay (z:=5) h hx (cells:=Svc.c) rfl;have hw:=ak hi hlen;have h0:((i:Int)<s.l.length):=by omega
   have hl1:((dL Svc.id x false (s.l.take i)).map Svc.c).length<big:=by
    simp only [bx]; omega
   have hl2:((s.l.take i).any fun z=>decide (Svc.id z>=Svc.id x))=false->((dL Svc.id x false (s.l.take i)).map Svc.c).length+1<big:=fun h=>by
    rw [iP _ _ _ h]; simp only [bx,List.length_take]; omega
   generalize (dL Svc.id x false (s.l.take i)).map Svc.c=acc at *;have hnu:=hA.nu;have hg:=hA.get hb;have hpf:∀ b,(false||b)=b:=fun b=>by cases b<;>rfl
   rw [hpf];cases hpl:((s.l.take i).any fun z=>decide (Svc.id z>=Svc.id x)) with
   | true =>
    by_cases c2:y.id=x.id
    · refine ⟨bs,lo,v,by simpa [jN,c2] using hA,fun W=>?_⟩;simp [jX,hg,h0,hsx,hnu,aH,hw,c2,Svc.c]
    · obtain ⟨v',bs',lo',ha,hA'⟩:=(hA.lay [.cells (y.c.map .d)]).app (by decide) (by_:=48) (by decide) (e:=y.c) rfl (by omega) lo (r:=bs.length) (cap:=some 1) (by simp);refine ⟨bs',lo',v',by simpa [jN,c2] using hA',fun W=>?_⟩;simp [Svc.c] at ha;simp [jX,hg,h0,hsx,hnu,aH,hw,c2,ha,hA'.nu,Svc.c]
   | false =>
    by_cases c1:y.id>=x.id
    · obtain ⟨v',bs',lo',ha,hA'⟩:=(hA.lay [.cells (x.c.map .d)]).app (by decide) (by_:=48) (by decide) (e:=x.c) rfl (by omega) lo (r:=bs.length) (cap:=some 1) (by simp);have hg':=hA'.get hb;by_cases c2:y.id=x.id
      · refine ⟨bs',lo',v',by simpa [jN,c2] using hA',fun W=>?_⟩;simp [Svc.c] at ha hg';simp [jX,hg,h0,hsx,hnu,aH,hw,c2,ha,hA'.nu,hg',Svc.c]
      · obtain ⟨v2,bs2,lo2,ha2,hA2⟩:=(hA'.lay [.cells (y.c.map .d)]).app (by decide) (by_:=48) (by decide) (e:=y.c) rfl (by simpa using hl2 hpl) lo' (r:=bs'.length) (cap:=some 1) (by simp);refine ⟨bs2,lo2,v2,by simpa [jN,c2,c1] using hA2,fun W=>?_⟩;simp [Svc.c] at ha hg' ha2;simp [jX,hg,h0,hsx,hnu,aH,hw,c1,c2,ha,ha2,hA'.nu,hA2.nu,hg',Svc.c]
    · obtain ⟨v',bs',lo',ha,hA'⟩:=(hA.lay [.cells (y.c.map .d)]).app (by decide) (by_:=48) (by decide) (e:=y.c) rfl (by omega) lo (r:=bs.length) (cap:=some 1) (by simp);have hg':=hA'.get hb;have c2:y.id≠x.id:=by omega
      refine ⟨bs',lo',v',by simpa [jN,c2,c1] using hA',fun W=>?_⟩;simp [Svc.c] at ha;simp [jX,hg,h0,hsx,hnu,aH,hw,c1,c2,ha,hA'.nu,Svc.c]
 · simp [jX]
theorem Yi (s:Sl Svc)(hs:short s)(hsl:s.l.length<big)(x:Svc)(a:V)(h:Hp)(ha:frz h a=some (.d (s.d Svc.c))):Sm E TX aM 79 [a,ag x.c] h=some (.d ((⟨false,cB Svc.id x s.l⟩:Sl Svc).d Svc.c),h):=by
 obtain ⟨bs,lo,v,a1,A⟩:=Xv (E:=E) s hs hsl x;have hne:=zt Svc.id x s.l;have hnu:=A.nu;have hg:=A.get (x:=0) (cs:=x.c.map .d) rfl;rw [aV bg1 bc8];simp only [List.mapM_cons,List.mapM_nil,lg,ha,Option.pure_def,Option.bind_eq_bind,Option.bind_some,lq];simp [ae,Pj];rw [au];cases hp:(s.l.any fun z=>decide (Svc.id z>=Svc.id x)) with
 | true =>
  have he:cB Svc.id x s.l=dL Svc.id x false s.l:=by simp [cB,hp]
  rw [hp] at a1;rw [he] at hne ⊢;obtain ⟨z1,z2⟩:=A.frz lo;have ow:=A.ownR (fun e he d hd=>by obtain ⟨y,_,rfl⟩:=b9.1 he; simp [Svc.c] at hd; rcases hd with rfl | rfl | rfl | rfl | rfl<;>simp) lo;have e1:((dL Svc.id x false s.l).map Svc.c).isEmpty=false:=by simpa using hne
  rw [e1] at z1 z2;simp [a1];simp [hnu,z1,z2,bG,Sl.d,ow]
 | false =>
  have he:cB Svc.id x s.l=s.l++[x]:=by rw [cB,hp,iP _ _ _ hp]; rfl
  rw [hp] at a1;rw [iP _ _ _ hp] at A;obtain ⟨v',bs',lo',hap,hA'⟩:=(A.lay [.cells (x.c.map .d)]).app (by decide) (by_:=48) (by decide) (e:=x.c) rfl (by simpa using hsl) lo (r:=bs.length) (cap:=some 1) (by simp);obtain ⟨z1,z2⟩:=hA'.frz lo';have ow:=hA'.ownR (fun e he d hd=>by
   rcases List.mem_append.1 he with he | he
   · obtain ⟨y,_,rfl⟩:=b9.1 he;simp [Svc.c] at hd; rcases hd with rfl | rfl | rfl | rfl | rfl<;>simp
   · simp at he;subst he;simp [Svc.c] at hd; rcases hd with rfl | rfl | rfl | rfl | rfl<;>simp) lo'
  rw [show (s.l.map Svc.c++[x.c]).isEmpty=false by simp] at z1 z2;rw [he];simp [a1];simp [hnu,hg,aH,hap,hA'.nu,z1,z2,bG,Sl.d,ow]
theorem bg2:TX 81=some Pk:=by kernel_rfl
theorem bc9:aM 81=true:=by kernel_rfl
theorem Xw (s:Sl Way)(hs:short s)(hsl:s.l.length<big)(x:Way):∃ bs' lo' v',Cd E TX aM (.loop [0,3,5,6,7] jY) [(0,.d (s.d Way.c)),(3,.ptr 0 0),(5,.d (.slice true [])),(6,bl false),(7,.d (i64 0))] ⟨[.cells (x.c.map .d)],0⟩=some (.exit 0,[(3,.ptr 0 0),(5,v'),(6,bl (s.l.any fun z=>decide (Way.id z>=Way.id x)))],⟨bs',lo'⟩)/\Acc [.cells (x.c.map .d)] 2 ((dL Way.id x false s.l).map Way.c) bs' v':=by
 have hlen:=hs.lt;have hb:af [Blk.cells (x.c.map .d)] 0=some (x.c.map .d):=rfl;have key:=lH (E:=E) (T:=TX) (val:=aM) (base:=[Blk.cells (x.c.map .d)]) (z:=2) (keep:=[0,3,5,6,7]) (body:=jY) s.l.length (fun i=>(dL Way.id x false (s.l.take i)).map Way.c) (fun i v=>[(0,.d (s.d Way.c)),(3,.ptr 0 0),(5,v),(6,bl ((s.l.take i).any fun z=>decide (Way.id z>=Way.id x))),(7,.d (i64 i))]) (fun v=>(.exit 0,[(3,.ptr 0 0),(5,v),(6,bl (s.l.any fun z=>decide (Way.id z>=Way.id x)))])) (fun i hi bs lo v hA=>?_) (fun bs lo v hA W=>?_) [Blk.cells (x.c.map .d)] 0 _ (by simpa [dL] using Acc.nil [Blk.cells (x.c.map .d)] 2)
 · simpa using key
 · have hx:=ac hi;have htk:s.l.take (i+1)=s.l.take i++[s.l[i]]:=by rw [List.take_add_one,hx]; rfl
   have hplen:=nL Way.id x (s.l.take i) false;simp only [List.length_take,bm,if_false] at hplen;rw [htk,rD,List.map_append,List.any_append];generalize s.l[i]=y at *;have hsx:=fun h=>ay (z:=2) h hx (cells:=Way.c) rfl;have hw:=ak hi hlen;have h0:((i:Int)<s.l.length):=by omega
   have hl1:((dL Way.id x false (s.l.take i)).map Way.c).length<big:=by
    simp only [bx]; omega
   have hl2:((s.l.take i).any fun z=>decide (Way.id z>=Way.id x))=false->((dL Way.id x false (s.l.take i)).map Way.c).length+1<big:=fun h=>by
    rw [iP _ _ _ h]; simp only [bx,List.length_take]; omega
   generalize (dL Way.id x false (s.l.take i)).map Way.c=acc at *;have hnu:=hA.nu;have hg:=hA.get hb;have hpf:∀ b,(false||b)=b:=fun b=>by cases b<;>rfl
   rw [hpf];cases hpl:((s.l.take i).any fun z=>decide (Way.id z>=Way.id x)) with
   | true =>
    by_cases c2:y.id=x.id
    · refine ⟨bs,lo,v,by simpa [jN,c2] using hA,fun W=>?_⟩;simp [jY,hg,h0,hsx,hnu,aH,hw,c2,Way.c]
    · obtain ⟨v',bs',lo',ha,hA'⟩:=(hA.lay [.cells (y.c.map .d)]).app (by decide) (by_:=16) (by decide) (e:=y.c) rfl (by omega) lo (r:=bs.length) (cap:=some 1) (by simp);refine ⟨bs',lo',v',by simpa [jN,c2] using hA',fun W=>?_⟩;simp [Way.c] at ha;simp [jY,hg,h0,hsx,hnu,aH,hw,c2,ha,hA'.nu,Way.c]
   | false =>
    by_cases c1:y.id>=x.id
    · obtain ⟨v',bs',lo',ha,hA'⟩:=(hA.lay [.cells (x.c.map .d)]).app (by decide) (by_:=16) (by decide) (e:=x.c) rfl (by omega) lo (r:=bs.length) (cap:=some 1) (by simp);have hg':=hA'.get hb;by_cases c2:y.id=x.id
      · refine ⟨bs',lo',v',by simpa [jN,c2] using hA',fun W=>?_⟩;simp [Way.c] at ha hg';simp [jY,hg,h0,hsx,hnu,aH,hw,c2,ha,hA'.nu,hg',Way.c]
      · obtain ⟨v2,bs2,lo2,ha2,hA2⟩:=(hA'.lay [.cells (y.c.map .d)]).app (by decide) (by_:=16) (by decide) (e:=y.c) rfl (by simpa using hl2 hpl) lo' (r:=bs'.length) (cap:=some 1) (by simp);refine ⟨bs2,lo2,v2,by simpa [jN,c2,c1] using hA2,fun W=>?_⟩;simp [Way.c] at ha hg' ha2;simp [jY,hg,h0,hsx,hnu,aH,hw,c1,c2,ha,ha2,hA'.nu,hA2.nu,hg',Way.c]
    · obtain ⟨v',bs',lo',ha,hA'⟩:=(hA.lay [.cells (y.c.map .d)]).app (by decide) (by_:=16) (by decide) (e:=y.c) rfl (by omega) lo (r:=bs.length) (cap:=some 1) (by simp);have hg':=hA'.get hb;have c2:y.id≠x.id:=by omega
      refine ⟨bs',lo',v',by simpa [jN,c2,c1] using hA',fun W=>?_⟩;simp [Way.c] at ha;simp [jY,hg,h0,hsx,hnu,aH,hw,c1,c2,ha,hA'.nu,Way.c]
 · simp [jY]
theorem Yj (s:Sl Way)(hs:short s)(hsl:s.l.length<big)(x:Way)(a:V)(h:Hp)(ha:frz h a=some (.d (s.d Way.c))):Sm E TX aM 81 [a,ag x.c] h=some (.d ((⟨false,cB Way.id x s.l⟩:Sl Way).d Way.c),h):=by
 obtain ⟨bs,lo,v,a1,A⟩:=Xw (E:=E) s hs hsl x;have hne:=zt Way.id x s.l;have hnu:=A.nu;have hg:=A.get (x:=0) (cs:=x.c.map .d) rfl;rw [aV bg2 bc9];simp only [List.mapM_cons,List.mapM_nil,lg,ha,Option.pure_def,Option.bind_eq_bind,Option.bind_some,lq];simp [ae,Pk];rw [au];cases hp:(s.l.any fun z=>decide (Way.id z>=Way.id x)) with
 | true =>
  have he:cB Way.id x s.l=dL Way.id x false s.l:=by simp [cB,hp]
  rw [hp] at a1;rw [he] at hne ⊢;obtain ⟨z1,z2⟩:=A.frz lo;have ow:=A.ownR (fun e he d hd=>by obtain ⟨y,_,rfl⟩:=b9.1 he; simp [Way.c] at hd; rcases hd with rfl | rfl | rfl | rfl | rfl<;>simp) lo;have e1:((dL Way.id x false s.l).map Way.c).isEmpty=false:=by simpa using hne
  rw [e1] at z1 z2;simp [a1];simp [hnu,z1,z2,bG,Sl.d,ow]
 | false =>
  have he:cB Way.id x s.l=s.l++[x]:=by rw [cB,hp,iP _ _ _ hp]; rfl
  rw [hp] at a1;rw [iP _ _ _ hp] at A;obtain ⟨v',bs',lo',hap,hA'⟩:=(A.lay [.cells (x.c.map .d)]).app (by decide) (by_:=16) (by decide) (e:=x.c) rfl (by simpa using hsl) lo (r:=bs.length) (cap:=some 1) (by simp);obtain ⟨z1,z2⟩:=hA'.frz lo';have ow:=hA'.ownR (fun e he d hd=>by
   rcases List.mem_append.1 he with he | he
   · obtain ⟨y,_,rfl⟩:=b9.1 he;simp [Way.c] at hd; rcases hd with rfl | rfl | rfl | rfl | rfl<;>simp
   · simp at he;subst he;simp [Way.c] at hd; rcases hd with rfl | rfl | rfl | rfl | rfl<;>simp) lo'
  rw [show (s.l.map Way.c++[x.c]).isEmpty=false by simp] at z1 z2;rw [he];simp [a1];simp [hnu,hg,aH,hap,hA'.nu,z1,z2,bG,Sl.d,ow]
end
section
variable {E:Calls'}
theorem mR {α β:Type}{f:α->β->Bool}:∀ {l:List α} {m:List β},l.length=m.length->all2 f l m=(l.zip m).all fun x=>f x.1 x.2
 | [],[],_=>rfl
 | x::l,y::m,h=>by simp [all2,mR (f:=f) (l:=l) (m:=m) (by simpa using h)]
theorem x38:TX 11=some q38:=by kernel_rfl
theorem w38:aM 11=true:=by kernel_rfl
theorem RH (a b:Cfg)(hc:a.ok)(hl:a.pods.l.length=b.pods.l.length):Cd E TX aM (.loop [2,3,5] zA) [(2,.ptr 0 0),(3,.ptr 1 0),(5,.d (i64 ((0:Nat):Int)))] ⟨[.cells (a.c.map .d),.cells (b.c.map .d)],0⟩=some (cond (all2 Pod.eqB a.pods.l b.pods.l) (.exit 0,[(2,.ptr 0 0),(3,.ptr 1 0)],⟨[.cells (a.c.map .d),.cells (b.c.map .d)],0⟩) (.ret,[(4,bl false)],⟨[.cells (a.c.map .d),.cells (b.c.map .d)],0⟩)):=by
 have hlen:=hc.1.lt;rw [mR hl];have hzl:(a.pods.l.zip b.pods.l).length=a.pods.l.length:=by simp; omega
 refine bS (a.pods.l.zip b.pods.l) (fun x=>Pod.eqB x.1 x.2) (fun i=>[(2,.ptr 0 0),(3,.ptr 1 0),(5,.d (i64 i))]) _ _ _ (fun i x hx hi W=>?_) (fun W=>?_)
 · obtain ⟨x,y⟩:=x;obtain ⟨h1,h2⟩:=List.getElem?_zip_eq_some.1 hx;have hsx:=fun h=>ay (z:=7) h h1 (cells:=Pod.c) rfl;have hsy:=fun h=>ay (z:=7) h h2 (cells:=Pod.c) rfl;rw [hzl] at hi;have hw:=ak hi hlen;have h0:((i:Int)<a.pods.l.length):=by omega
   cases hA:Pod.eqB x y<;>simp [zA,hsx,hsy,h0,hw,hA]
 · simp [zA,hzl]
theorem RI (a b:Cfg)(hc:a.ok)(hl:a.services.l.length=b.services.l.length):Cd E TX aM (.loop [2,3,6] zB) [(2,.ptr 0 0),(3,.ptr 1 0),(6,.d (i64 ((0:Nat):Int)))] ⟨[.cells (a.c.map .d),.cells (b.c.map .d)],0⟩=some (cond (all2 Svc.eqB a.services.l b.services.l) (.exit 2,[(2,.ptr 0 0),(3,.ptr 1 0)],⟨[.cells (a.c.map .d),.cells (b.c.map .d)],0⟩) (.ret,[(4,bl false)],⟨[.cells (a.c.map .d),.cells (b.c.map .d)],0⟩)):=by
 have hlen:=hc.2.1.lt;rw [mR hl];have hzl:(a.services.l.zip b.services.l).length=a.services.l.length:=by simp; omega
 refine bS (a.services.l.zip b.services.l) (fun x=>Svc.eqB x.1 x.2) (fun i=>[(2,.ptr 0 0),(3,.ptr 1 0),(6,.d (i64 i))]) _ _ _ (fun i x hx hi W=>?_) (fun W=>?_)
 · obtain ⟨x,y⟩:=x;obtain ⟨h1,h2⟩:=List.getElem?_zip_eq_some.1 hx;have hsx:=fun h=>ay (z:=5) h h1 (cells:=Svc.c) rfl;have hsy:=fun h=>ay (z:=5) h h2 (cells:=Svc.c) rfl;rw [hzl] at hi;have hw:=ak hi hlen;have h0:((i:Int)<a.services.l.length):=by omega
   cases hA:Svc.eqB x y<;>simp [zB,hsx,hsy,h0,hw,hA]
 · simp [zB,hzl]
theorem RJ (a b:Cfg)(hc:a.ok)(hl:a.bound.l.length=b.bound.l.length):Cd E TX aM (.loop [2,3,7] zC) [(2,.ptr 0 0),(3,.ptr 1 0),(7,.d (i64 ((0:Nat):Int)))] ⟨[.cells (a.c.map .d),.cells (b.c.map .d)],0⟩=some (cond (all2 Way.eqB a.bound.l b.bound.l) (.exit 4,[(2,.ptr 0 0),(3,.ptr 1 0)],⟨[.cells (a.c.map .d),.cells (b.c.map .d)],0⟩) (.ret,[(4,bl false)],⟨[.cells (a.c.map .d),.cells (b.c.map .d)],0⟩)):=by
 have hlen:=hc.2.2.1.lt;rw [mR hl];have hzl:(a.bound.l.zip b.bound.l).length=a.bound.l.length:=by simp; omega
 refine bS (a.bound.l.zip b.bound.l) (fun x=>Way.eqB x.1 x.2) (fun i=>[(2,.ptr 0 0),(3,.ptr 1 0),(7,.d (i64 i))]) _ _ _ (fun i x hx hi W=>?_) (fun W=>?_)
 · obtain ⟨x,y⟩:=x;obtain ⟨h1,h2⟩:=List.getElem?_zip_eq_some.1 hx;have hsx:=fun h=>ay (z:=2) h h1 (cells:=Way.c) rfl;have hsy:=fun h=>ay (z:=2) h h2 (cells:=Way.c) rfl;rw [hzl] at hi;have hw:=ak hi hlen;have h0:((i:Int)<a.bound.l.length):=by omega
   cases hA:Way.eqB x y<;>simp [zC,hsx,hsy,h0,hw,hA]
 · simp [zC,hzl]
theorem RL (hE:∀ x y:Pol,x.ok->∀ h,E 13 [ag x.c,ag y.c] h=some (bl (x.same y),h))(a b:Cfg)(hc:a.ok)(hl:a.policies.l.length=b.policies.l.length):Cd E TX aM (.loop [2,3,8] zD) [(2,.ptr 0 0),(3,.ptr 1 0),(8,.d (i64 ((0:Nat):Int)))] ⟨[.cells (a.c.map .d),.cells (b.c.map .d)],0⟩=some (cond (all2 Pol.same a.policies.l b.policies.l) (.exit 6,[],⟨[.cells (a.c.map .d),.cells (b.c.map .d)],0⟩) (.ret,[(4,bl false)],⟨[.cells (a.c.map .d),.cells (b.c.map .d)],0⟩)):=by
 have hlen:=hc.2.2.2.1.lt;rw [mR hl];have hzl:(a.policies.l.zip b.policies.l).length=a.policies.l.length:=by simp; omega
 refine bS (a.policies.l.zip b.policies.l) (fun x=>Pol.same x.1 x.2) (fun i=>[(2,.ptr 0 0),(3,.ptr 1 0),(8,.d (i64 i))]) _ _ _ (fun i x hx hi W=>?_) (fun W=>?_)
 · obtain ⟨x,y⟩:=x;obtain ⟨h1,h2⟩:=List.getElem?_zip_eq_some.1 hx;have hsx:=fun h=>ay (z:=5) h h1 (cells:=Pol.c) rfl;have hsy:=fun h=>ay (z:=5) h h2 (cells:=Pol.c) rfl;rw [hzl] at hi;have hw:=ak hi hlen;have h0:((i:Int)<a.policies.l.length):=by omega
   have hm:=ca h1;have hcall:=fun h=>(bC (E:=E) (T:=TX) (val:=aM) (f:=13) (by kernel_rfl)).trans (hE x y (hc.2.2.2.2 x hm) h);cases hA:x.same y<;>rw [hA] at hcall<;>simp +decide [zD,hsx,hsy,h0,hw,ai,aa,av,hcall]
 · simp [zD,hzl]
theorem S38 (hE:∀ x y:Pol,x.ok->∀ h,E 13 [ag x.c,ag y.c] h=some (bl (x.same y),h))(a b:Cfg)(ha:a.ok)(h:Hp):Sm E TX aM 11 [a.v,b.v] h=some (bl (a.same b),h):=by
 rw [aV x38 w38];unfold Cfg.same;cases e1:(a.epoch==b.epoch)
 case false=>simp [ae,q38,e1]
 cases e2:(a.next==b.next)
 case false=>simp [ae,q38,e1,e2]
 cases e3:(a.hosts==b.hosts)
 case false=>simp [ae,q38,e1,e2,e3]
 cases e4:(a.ways==b.ways)
 case false=>simp [ae,q38,e1,e2,e3,e4]
 by_cases h1:a.pods.l.length=b.pods.l.length
 case neg =>
  have h1':¬ ((a.pods.l.length:Int)=b.pods.l.length):=by omega
  simp [ae,q38,e1,e2,e3,e4,h1',iI h1]
 by_cases h2:a.services.l.length=b.services.l.length
 case neg =>
  have h1':¬ ((a.services.l.length:Int)=b.services.l.length):=by omega
  simp [ae,q38,e1,e2,e3,e4,h1,h1',iI h2]
 by_cases h3:a.bound.l.length=b.bound.l.length
 case neg =>
  have h1':¬ ((a.bound.l.length:Int)=b.bound.l.length):=by omega
  simp [ae,q38,e1,e2,e3,e4,h1,h2,h1',iI h3]
 by_cases h4:a.policies.l.length=b.policies.l.length
 case neg =>
  have h1':¬ ((a.policies.l.length:Int)=b.policies.l.length):=by omega
  simp [ae,q38,e1,e2,e3,e4,h1,h2,h3,h1',iI h4]
 have k1:=RH (E:=E) a b ha h1;have k2:=RI (E:=E) a b ha h2;have k3:=RJ (E:=E) a b ha h3;have k4:=RL (E:=E) hE a b ha h4;simp at k1 k2 k3 k4;generalize all2 Pod.eqB a.pods.l b.pods.l=A1 at *;generalize all2 Svc.eqB a.services.l b.services.l=A2 at *;generalize all2 Way.eqB a.bound.l b.bound.l=A3 at *;generalize all2 Pol.same a.policies.l b.policies.l=A4 at *;simp [ae,q38,e1,e2,e3,e4,h1,h2,h3,h4];rw [au];cases A1
 case false=>simp [k1]
 simp [k1];rw [au];cases A2
 case false=>simp [k2]
 simp [k2];rw [au];cases A3
 case false=>simp [k3]
 simp [k3];rw [au];cases A4<;>simp [k4]
end
section
variable {E:Calls'}
def am9:List (Nat×QF):=[(7,q34),(27,q96),(78,Pi),(83,LA)]
def TY:FuncId->Option QF:=kz am9
def gQ (f:FuncId):Bool:=Nat.beq 27 f
def Row1 (L M:Nat)(bs:List Blk)(z:Nat)(es:List (List D))(v:V):Prop :=
 (∀ e∈es,e.length=z)/\((es=[]/\v=.d (.slice true []))\/∃ b cap,L<=b/\b<M/\v=.row b 0 es.length cap z/\af bs b=some (flat es)/\(cap=none/\es≠[]\/cap=some 0/\es=[]))
theorem Row1.on {L M z:Nat}{bs bs':List Blk}{es:List (List D)}{v:V}(h:Row1 L M bs z es v)(ho:∀ x,L<=x->x<M->bs'[x]?=bs[x]?):Row1 L M bs' z es v:=by
 refine ⟨h.1,?_⟩;rcases h.2 with h | ⟨b,cap,h1,h2,h3,h4,h5⟩
 · exact .inl h
 · refine .inr ⟨b,cap,h1,h2,h3,?_,h5⟩;rw [← h4]; unfold af; rw [ho b h1 h2]
theorem Row1.cl {L M z:Nat}{bs:List Blk}{es:List (List D)}{v:V}(h:Row1 L M bs z es v):v.cells=some [v]:=by
 rcases h.2 with ⟨_,rfl⟩ | ⟨b,cap,h1,h2,rfl,_⟩<;>rfl
theorem Row1.nu {L M z:Nat}{bs:List Blk}{es:List (List D)}{v:V}(h:Row1 L M bs z es v):nu v=some v:=by
 rcases h.2 with ⟨_,rfl⟩ | ⟨b,cap,h1,h2,rfl,_⟩<;>rfl
theorem Row1.ok {L M z:Nat}{bs:List Blk}{es:List (List D)}{v:V}(h:Row1 L M bs z es v):okV v=true:=by
 rcases h.2 with ⟨_,rfl⟩ | ⟨b,cap,h1,h2,rfl,_⟩<;>rfl
theorem Od {α:Type}{cells:α->List D}{z by_:Nat}(hz:∀ x,(cells x).length=z)(hz0:0<z)(hby:by_<=4096){s:Sl α}(hs:short s)(bs:List Blk) :
 ∃ v bs',(∀ lo,dZ ⟨bs++[.cells []],lo⟩ z by_ (.row bs.length 0 0 (some 0) z) (.d (s.d cells))=some (v,⟨bs',lo⟩))/\bs.length<=bs'.length/\(∀ x,x<bs.length->bs'[x]?=bs[x]?)/\Row1 bs.length bs'.length bs' z (s.l.map cells) v/\∀ k,k<=bs.length->v.under k=false:=by
 have hzz:z≠0:=by omega
 have hw:∀ e∈s.l.map cells,e.length=z:=fun e he=>by obtain ⟨y,_,rfl⟩:=b9.1 he; exact hz y
 have hrc:∀ h,aD h (.d (s.d cells)) z=some (s.l.length,flat (s.l.map cells)):=fun h=>by
  have hall:((s.l.map cells).all fun e=>e.length==z)=true:=ch.2 fun x hx=>by simp [hw x hx]
  simp only [aD,Sl.d,hall,if_true,flat,bx]
 by_cases h0:s.l.length=0
 · have hl:s.l=[]:=List.length_eq_zero_iff.1 h0;refine ⟨.row bs.length 0 0 (some 0) z,bs++[.cells []],fun lo=>?_,by simp,fun x hx=>ao hx,⟨hw,.inr ⟨bs.length,some 0,bp _,by simp,by rw [hl]; rfl,by rw [hl]; simp,.inr ⟨rfl,by rw [hl]; rfl⟩⟩⟩,fun k hk=>by simp [V.under]; omega⟩;simp only [dZ,hrc,aF,if_pos h0];simp [hzz]
 · have hroom:roomy s.l.length by_=true:=by simp only [roomy,aq,br]; exact ⟨hs.1,hby⟩
   have hne:s.l≠[]:=fun h=>h0 (by rw [h]; rfl);refine ⟨.row (bs.length+1) 0 s.l.length none z,bs++[.cells [],.cells (flat (s.l.map cells))],fun lo=>?_,by simp,fun x hx=>ao hx,⟨hw,.inr ⟨bs.length+1,none,by omega,by simp,by simp,?_,.inl ⟨rfl,by simpa using hne⟩⟩⟩,fun k hk=>by simp [V.under]; omega⟩
   · simp only [dZ,hrc,aF,if_neg h0];simp [hzz,hroom,h0]
   · have:=gD (bs:=bs) (ys:=[.cells [],.cells (flat (s.l.map cells))]) (i:=1);rw [this];rfl
theorem Acc.row1 {base:List Blk}{z:Nat}{acc:List (List D)}{bs:List Blk}{v:V}(h:Acc base z acc bs v):Row1 base.length bs.length bs z acc v:=by
 refine ⟨h.wid,?_⟩;rcases h.is with h1 | ⟨h1,b,h2,h3,h4⟩
 · exact .inl h1
 · exact .inr ⟨b,none,h2,aI h4,h3,h4,.inl ⟨rfl,h1⟩⟩
structure DoesE (E:Calls'):Prop where
 e35:∀ p:Pol,p.fits big->∀ h,E 8 [ag p.c] h=some (ag p.cp.c,h)
 e46:∀ (c:Cfg) (n:Int),c.ok->∀ a h,frz h a=some (ag c.c)->E 77 [a,.d (u64 n)] h=some (.d (i64 (cu c.pods.l fun p=>p.uid==n)),h)
 e111:∀ (c:Cfg) (n:Int),c.ok->∀ a h,frz h a=some (ag c.c)->E 80 [a,.d (u64 n)] h=some (.d (i64 (cu c.services.l fun p=>p.id==n)),h)
 e112:∀ (c:Cfg) (n:Int),c.ok->∀ a h,frz h a=some (ag c.c)->E 82 [a,.d (u64 n)] h=some (.d (i64 (cu c.bound.l fun p=>p.id==n)),h)
 e218:∀ (s:Sl Svc) (x:Svc),short s->s.l.length<big->∀ a h,frz h a=some (.d (s.d Svc.c))->E 79 [a,ag x.c] h=some (.d ((⟨false,cB Svc.id x s.l⟩:Sl Svc).d Svc.c),h)
 e219:∀ (s:Sl Way) (x:Way),short s->s.l.length<big->∀ a h,frz h a=some (.d (s.d Way.c))->E 81 [a,ag x.c] h=some (.d ((⟨false,cB Way.id x s.l⟩:Sl Way).d Way.c),h)
theorem y34:TY 7=some q34:=by kernel_rfl
theorem z34:gQ 7=false:=by kernel_rfl
theorem y35:TY 8=none:=by kernel_rfl
theorem L34 {T:FuncId->Option QF}{val:FuncId->Bool}(h35:T 8=none)(hE:DoesE E)(c:Cfg)(hc:c.ok)(base:List Blk)(n:Nat)(vs:List V)(hb:af base n=some vs)(h8:sub vs 7 1=some [.d (c.policies.d Pol.c)])(lo:Nat):∃ bs' lo' v',Cd E T val (.loop [1,2,3,4] wN) [(1,.ptr n 0),(2,.ptr (n+1) 0),(3,.d (.slice true [])),(4,.d (i64 0))] ⟨base,lo⟩=some (.exit 0,[(1,.ptr n 0),(2,.ptr (n+1) 0),(3,v')],⟨bs',lo'⟩)/\Acc base 5 (c.policies.l.map fun r=>r.cp.c) bs' v':=by
 have hlen:=hc.2.2.2.1.lt;have key:=lH (E:=E) (T:=T) (val:=val) (base:=base) (z:=5) (keep:=[1,2,3,4]) (body:=wN) c.policies.l.length (fun i=>(c.policies.l.take i).map fun r=>r.cp.c) (fun i v=>[(1,.ptr n 0),(2,.ptr (n+1) 0),(3,v),(4,.d (i64 i))]) (fun v=>(.exit 0,[(1,.ptr n 0),(2,.ptr (n+1) 0),(3,v)])) (fun i hi bs lo v hA=>?_) (fun bs lo v hA W=>?_) base lo _ (by simpa using Acc.nil base 5)
 · simpa using key
 · have hx:=ac hi;have hmem:=bh hi;have htk:c.policies.l.take (i+1)=c.policies.l.take i++[c.policies.l[i]]:=by rw [List.take_add_one,hx]; rfl
   generalize c.policies.l[i]=r at *;have hsx:=fun h=>ay (z:=5) h hx (cells:=Pol.c) rfl;have hw:=ak hi hlen;have h0:((i:Int)<c.policies.l.length):=by omega
   have hnu:=hA.nu;have hg:=hA.get hb;have hcall:=fun h=>(bC (E:=E) (val:=val) h35).trans (hE.e35 r (hc.2.2.2.2 r hmem) h);obtain ⟨v',bs',lo',ha,hA'⟩:=(hA.lay [.cells (r.cp.c.map .d)]).app (by decide) (by_:=64) (by decide) (e:=r.cp.c) rfl (by simp; have:=hc.2.2.2.1.1; omega) lo (r:=bs.length) (cap:=some 1) (by simp);refine ⟨bs',lo',v',by rw [htk,List.map_append]; exact hA',fun W=>?_⟩;simp [wN,hg,h8,h0,hsx,hnu,hcall,aH,ha,hw,hA'.nu]
 · simp [wN,hA.get hb,h8]
def cq (c:Cfg)(v4 v5 v6 v7:V):List V:=[.d (u64 c.epoch),.d (u64 c.next),.d (i64 c.hosts),.d (i64 c.ways),v4,v5,v6,v7]
section
variable {c:Cfg}{a b d e x:V}
theorem cq4:put (cq c a b d e) 4 [x]=some (cq c x b d e):=(rfl)
theorem cq5:put (cq c a b d e) 5 [x]=some (cq c a x d e):=(rfl)
theorem cq6:put (cq c a b d e) 6 [x]=some (cq c a b x e):=(rfl)
theorem cq7:put (cq c a b d e) 7 [x]=some (cq c a b d x):=(rfl)
theorem cs4:sub (cq c a b d e) 4 1=some [a]:=(rfl)
theorem cs5:sub (cq c a b d e) 5 1=some [b]:=(rfl)
theorem cs6:sub (cq c a b d e) 6 1=some [d]:=(rfl)
theorem cs7:sub (cq c a b d e) 7 1=some [e]:=(rfl)
theorem cs8:sub (cq c a b d e) 0 8=some (cq c a b d e):=(rfl)
theorem cql:(cq c a b d e).length=8:=(rfl)
theorem cqz {z:List V}(hz:z.length=8):put z 0 (cq c a b d e)=some (cq c a b d e):=by simp [put,hz,cql]
end
theorem B34 {T:FuncId->Option QF}{val:FuncId->Bool}(h35:T 8=none)(hE:DoesE E)(c:Cfg)(hc:c.ok)(bs:List Blk):∃ bs' lo' v4 v5 v6 v7 L0 L1 L2 L3,
 Bd E T val q34 [c.v] ⟨bs,bs.length⟩=some (.agg (cq c v4 v5 v6 v7),⟨bs',lo'⟩)/\(∀ x,x<bs.length->bs'[x]?=bs[x]?)/\bs.length<=L0/\L0<=L1/\L1<=L2/\L2<=L3/\L3<=bs'.length ∧
 Row1 L0 L1 bs' 7 (c.pods.l.map Pod.c) v4/\Row1 L1 L2 bs' 5 (c.services.l.map Svc.c) v5/\Row1 L2 L3 bs' 2 (c.bound.l.map Way.c) v6/\Row1 L3 bs'.length bs' 5 (c.policies.l.map fun r=>r.cp.c) v7 ∧
 v4≠.d (.slice true [])/\v5≠.d (.slice true [])/\v6≠.d (.slice true [])/\(c.policies.l=[]->v7=.d (.slice true []))/\v4.under bs.length=false:=by
 obtain ⟨v4,b4,a4,l4,k4,r4,u4⟩:=Od (cells:=Pod.c) (z:=7) (by_:=72) (fun _=>rfl) (by decide) (by decide) hc.1 (bs++[.cells (c.c.map .d),.cells [.d (.int .u64 0),.d (.int .u64 0),.d (i64 0),.d (i64 0),.d (.slice true []),.d (.slice true []),.d (.slice true []),.d (.slice true [])]]);have n4:bs.length+2<=b4.length:=by simpa using l4
 let c4:=cq c v4 (.d (c.services.d Svc.c)) (.d (c.bound.d Way.c)) (.d (c.policies.d Pol.c))
 obtain ⟨v5,b5,a5,l5,k5,r5,u5⟩:=Od (cells:=Svc.c) (z:=5) (by_:=48) (fun _=>rfl) (by decide) (by decide) hc.2.1 (b4.set bs.length (.cells (cq c v4 (.d (c.services.d Svc.c)) (.d (c.bound.d Way.c)) (.d (c.policies.d Pol.c)))));have n5:b4.length<=b5.length:=by simpa using l5
 obtain ⟨v6,b6,a6,l6,k6,r6,u6⟩:=Od (cells:=Way.c) (z:=2) (by_:=16) (fun _=>rfl) (by decide) (by decide) hc.2.2.1 (b5.set bs.length (.cells (cq c v4 v5 (.d (c.bound.d Way.c)) (.d (c.policies.d Pol.c)))));have n6:b5.length<=b6.length:=by simpa using l6
 have g0:af b4 bs.length=some (cq c (.d (c.pods.d Pod.c)) (.d (c.services.d Svc.c)) (.d (c.bound.d Way.c)) (.d (c.policies.d Pol.c))):=by
  have:af (bs++[.cells (c.c.map .d),.cells [.d (.int .u64 0),.d (.int .u64 0),.d (i64 0),.d (i64 0),.d (.slice true []),.d (.slice true []),.d (.slice true []),.d (.slice true [])]]) bs.length=some (c.c.map .d):=by simp
  rw [show cq c (.d (c.pods.d Pod.c)) (.d (c.services.d Svc.c)) (.d (c.bound.d Way.c)) (.d (c.policies.d Pol.c))=c.c.map .d from rfl,← this];unfold af; rw [k4 _ (by simp)]
 have gset:∀ (b:List Blk) (cs:List V),bs.length<b.length->af (b.set bs.length (.cells cs)) bs.length=some cs:=fun b cs h=>by simp [af,h]
 have g1:=gset b4 (cq c v4 (.d (c.services.d Svc.c)) (.d (c.bound.d Way.c)) (.d (c.policies.d Pol.c))) (by omega);have g1':af b5 bs.length=some (cq c v4 (.d (c.services.d Svc.c)) (.d (c.bound.d Way.c)) (.d (c.policies.d Pol.c))):=by rw [← g1]; unfold af; rw [k5 _ (by simp; omega)]
 have g2:=gset b5 (cq c v4 v5 (.d (c.bound.d Way.c)) (.d (c.policies.d Pol.c))) (by omega);have g2':af b6 bs.length=some (cq c v4 v5 (.d (c.bound.d Way.c)) (.d (c.policies.d Pol.c))):=by rw [← g2]; unfold af; rw [k6 _ (by simp; omega)]
 have g3:=gset b6 (cq c v4 v5 v6 (.d (c.policies.d Pol.c))) (by omega);obtain ⟨b7,lo7,v7,a7,A7⟩:=L34 (val:=val) h35 hE c hc (b6.set bs.length (.cells (cq c v4 v5 v6 (.d (c.policies.d Pol.c))))) bs.length _ g3 rfl bs.length;have r7:=A7.row1;have n7:=A7.len;simp at n7 r7;have g3':=A7.get g3;have g4:=gset b7 (cq c v4 v5 v6 v7) (by omega);have gz:af b7 (bs.length+1)=some [.d (.int .u64 0),.d (.int .u64 0),.d (i64 0),.d (i64 0),.d (.slice true []),.d (.slice true []),.d (.slice true []),.d (.slice true [])]:=by
  refine A7.get ?_;have h0:af (bs++[.cells (c.c.map .d),.cells [.d (.int .u64 0),.d (.int .u64 0),.d (i64 0),.d (i64 0),.d (.slice true []),.d (.slice true []),.d (.slice true []),.d (.slice true [])]]) (bs.length+1)=some [.d (.int .u64 0),.d (.int .u64 0),.d (i64 0),.d (i64 0),.d (.slice true []),.d (.slice true []),.d (.slice true []),.d (.slice true [])]:=by simp
  rw [← h0]; unfold af;rw [am (by omega),k6 _ (by simp; omega),am (by omega),k5 _ (by simp; omega),am (by omega),k4 _ (by simp)]
 have gz':af (b7.set bs.length (.cells (cq c v4 v5 v6 v7))) (bs.length+1)=some [.d (.int .u64 0),.d (.int .u64 0),.d (i64 0),.d (i64 0),.d (.slice true []),.d (.slice true []),.d (.slice true []),.d (.slice true [])]:=by rw [← gz]; unfold af; rw [am (by omega)]
 have gy:af ((b7.set bs.length (.cells (cq c v4 v5 v6 v7))).set (bs.length+1) (.cells (cq c v4 v5 v6 v7))) (bs.length+1)=some (cq c v4 v5 v6 v7):=by
  have:bs.length+1<b7.length:=by omega
  simp [af,this]
 have hold:∀ x,bs.length+2<=x\/x<bs.length->((b7.set bs.length (.cells (cq c v4 v5 v6 v7))).set (bs.length+1) (.cells (cq c v4 v5 v6 v7)))[x]?=b7[x]?:=fun x hx=>by rw [am (by omega),am (by omega)]
 have h7:∀ x,x<b6.length->x≠bs.length->b7[x]?=b6[x]?:=fun x hx hne=>by rw [A7.old x (by simpa using hx),am (Ne.symm hne)]
 have h6:∀ x,x<b5.length->x≠bs.length->b6[x]?=b5[x]?:=fun x hx hne=>by rw [k6 x (by simpa using hx),am (Ne.symm hne)]
 have h5:∀ x,x<b4.length->x≠bs.length->b5[x]?=b4[x]?:=fun x hx hne=>by rw [k5 x (by simpa using hx),am (Ne.symm hne)]
 refine ⟨(b7.set bs.length (.cells (cq c v4 v5 v6 v7))).set (bs.length+1) (.cells (cq c v4 v5 v6 v7)),min (min lo7 bs.length) (bs.length+1),v4,v5,v6,v7,bs.length+2,b4.length,b5.length,b6.length,?_,?_,by omega,n4,n5,n6,by simpa using n7,?_,?_,?_,?_,?_,?_,?_,?_,u4 bs.length (by simp)⟩
 · have q4:=a4 bs.length;have q5:=a5 bs.length;have q6:=a6 bs.length;have t4:=r4.cl; have t5:=r5.cl; have t6:=r6.cl; have t7:=r7.cl;have m4:=r4.nu; have m5:=r5.nu; have m6:=r6.nu; have m7:=r7.nu;simp at q4 q5 q6 a7;have hcv:c.v=.agg (cq c (.d (c.pods.d Pod.c)) (.d (c.services.d Svc.c)) (.d (c.bound.d Way.c)) (.d (c.policies.d Pol.c))):=rfl;simp [ae,q34,q4,q5,q6,m4,m5,m6,m7,t4,t5,t6,t7,g0,g1,g1',g2,g2',g3,ax g1,ax g2,cq4,cq5,cq6,cs4,cs5,cs6,cql];rw [au];simp [a7];simp [m7,t7,g3',cs8,cql,cqz,cq7,g4,gz',gy]
 · intro x hx;rw [hold x (.inr hx),h7 x (by omega) (by omega),h6 x (by omega) (by omega),h5 x (by omega) (by omega),k4 x (by simp; omega)];exact ao hx
 · exact (by simpa using r4:Row1 (bs.length+2) b4.length b4 7 _ v4).on fun x h1 h2=>by rw [hold x (.inl h1),h7 x (by omega) (by omega),h6 x (by omega) (by omega),h5 x h2 (by omega)]
 · exact (by simpa using r5:Row1 b4.length b5.length b5 5 _ v5).on fun x h1 h2=>by rw [hold x (.inl (by omega)),h7 x (by omega) (by omega),h6 x h2 (by omega)]
 · exact (by simpa using r6:Row1 b5.length b6.length b6 2 _ v6).on fun x h1 h2=>by rw [hold x (.inl (by omega)),h7 x h2 (by omega)]
 · simpa using r7.on fun x h1 h2=>hold x (.inl (by omega))
 · rintro rfl; exact absurd (u4 0 (by simp)) (by simp [V.under])
 · rintro rfl; exact absurd (u5 0 (by simp)) (by simp [V.under])
 · rintro rfl; exact absurd (u6 0 (by simp)) (by simp [V.under])
 · intro h0;rcases A7.is with ⟨_,h⟩ | ⟨h,_⟩
   · exact h
   · exact absurd (by simp [h0]) h
theorem S34 (hE:DoesE E)(c:Cfg)(hc:c.ok)(bs:List Blk)(lo:Nat):∃ bs' lo' v4 v5 v6 v7 L0 L1 L2 L3,
 Sm E TY gQ 7 [c.v] ⟨bs,lo⟩=some (.agg (cq c v4 v5 v6 v7),⟨bs',lo'⟩)/\(∀ x,x<bs.length->bs'[x]?=bs[x]?)/\bs.length<=L0/\L0<=L1/\L1<=L2/\L2<=L3/\L3<=bs'.length ∧
 Row1 L0 L1 bs' 7 (c.pods.l.map Pod.c) v4/\Row1 L1 L2 bs' 5 (c.services.l.map Svc.c) v5/\Row1 L2 L3 bs' 2 (c.bound.l.map Way.c) v6/\Row1 L3 bs'.length bs' 5 (c.policies.l.map fun r=>r.cp.c) v7 ∧
 v4≠.d (.slice true [])/\v5≠.d (.slice true [])/\v6≠.d (.slice true [])/\(c.policies.l=[]->v7=.d (.slice true [])):=by
 obtain ⟨bs',lo',v4,v5,v6,v7,L0,L1,L2,L3,a,r1,r2,r3,r4,r5,r6,r7,r8,r9,r10,r11,r12,r13,r14,u4⟩:=B34 (val:=gQ) y35 hE c hc bs;refine ⟨bs',min lo lo',v4,v5,v6,v7,L0,L1,L2,L3,?_,r1,r2,r3,r4,r5,r6,r7,r8,r9,r10,r11,r12,r13,r14⟩;rw [aN y34 z34];show dU ⟨bs,lo⟩ (Bd E TY gQ q34 [c.v] ⟨bs,bs.length⟩)=_;rw [a,bY,if_neg];rintro ⟨_,hu⟩;simp [V.under,V.under.go,cq,u4] at hu
end
section
variable {E:Calls'}
theorem su {α:Type}{a b:List α}{o k:Nat}(h:o+k<=a.length):sub (a++b) o k=sub a o k:=by
 rw [eY,eY,if_pos (by simp; omega),if_pos h,List.drop_append_of_le_length (by omega),List.take_append_of_le_length (by simp; omega)]
theorem ug {α:Type}{a b:List α}{o k:Nat}:sub (a++b) (a.length+o) k=sub b o k:=by
 rw [eY,eY,ap,List.drop_append];by_cases h:o+k<=b.length
 · rw [if_pos (by omega),if_pos h,ba (show a.length<=a.length+o by omega)];simp
 · rw [if_neg (by omega),if_neg h]
theorem xc {z:Nat}:∀ {es:List (List D)} {i:Nat} {e:List D},(∀ e∈es,e.length=z)->es[i]?=some e->∀ {o k:Nat},o+k<=z->sub (flat es) (i * z+o) k=sub (e.map V.d) o k
 | x::es,0,e,hz,hi,o,k,h=>by
  simp at hi;subst hi;rw [flat_cons,Nat.zero_mul,Nat.zero_add,su (by simp [hz x (by simp)]; omega)]
 | x::es,i+1,e,hz,hi,o,k,h=>by
  have hx:=hz x (by simp);have:(i+1) * z+o=(x.map V.d).length+(i * z+o):=by simp [hx,Nat.succ_mul]; omega
  rw [flat_cons,this,ug];exact xc (fun e he=>hz e (by simp [he])) (by simpa using hi) h
theorem Row1.len {L M z:Nat}{bs:List Blk}{es:List (List D)}{v:V}(h:Row1 L M bs z es v)(hp:Hp):nG false v hp=some (.d (i64 es.length),hp):=by
 rcases h.2 with ⟨rfl,rfl⟩ | ⟨b,cap,h1,h2,rfl,_⟩<;>rfl
theorem Row1.at {L M z:Nat}{bs:List Blk}{es:List (List D)}{v:V}(h:Row1 L M bs z es v){i:Nat}{e:List D}(hi:es[i]?=some e) :
 ∃ b,L<=b/\b<M/\(∀ hp,eP none z v (.d (.int .i64 i)) hp=some (.ptr b (i * z),hp))/\af bs b=some (flat es)/\(∀ o k,o+k<=z->sub (flat es) (i * z+o) k=sub (e.map V.d) o k)/\∀ k,k<=z->sub (flat es) (i * z) k=sub (e.map V.d) 0 k:=by
 have hlt:=(bw.1 hi).1;rcases h.2 with ⟨rfl,rfl⟩ | ⟨b,cap,h1,h2,rfl,h3,_⟩
 · simp at hlt
 · refine ⟨b,h1,h2,fun hp=>?_,h3,fun o k hk=>xc h.1 hi hk,fun k hk=>by simpa using xc (o:=0) h.1 hi (by omega)⟩;simp only [eP];rw [if_pos ⟨by omega,by omega,trivial⟩];simp
theorem Acc.ret {bs bs':List Blk}{z lo lo':Nat}{acc:List (List D)}{v:V}(h:Acc bs z acc bs' v):∃ bs2 lo2,dU ⟨bs,lo⟩ (some (v,⟨bs',lo'⟩))=some (v,⟨bs2,lo2⟩)/\Acc bs z acc bs2 v:=by
 rw [bY];by_cases hc:bs.length<=lo'/\v.under bs.length=true
 · rw [if_pos hc];refine ⟨bs,lo,rfl,?_⟩;rcases h.is with ⟨rfl,rfl⟩ | ⟨h1,b,h2,rfl,h4⟩
   · exact Acc.nil bs z
   · have:=hc.2;simp [V.under] at this;omega
 · rw [if_neg hc];exact ⟨_,_,rfl,h⟩
theorem bi7:TY 78=some Pi:=by kernel_rfl
theorem bi8:gQ 78=false:=by kernel_rfl
theorem Sz (l:List Pod)(hl:l.length<=big)(id:Int){L M:Nat}{bs:List Blk}{v:V}(hr:Row1 L M bs 7 (l.map Pod.c) v)(lo:Nat) :
 ∃ bs' lo' v',Sm E TY gQ 78 [v,.d (u64 id)] ⟨bs,lo⟩=some (v',⟨bs',lo'⟩)/\Acc bs 7 ((l.filter fun p=>!(p.uid==id)).map Pod.c) bs' v':=by
 have hlen:l.length<2 ^ 62:=cd hl (by decide);have hvl:=hr.len;simp only [bx] at hvl;have hvn:=hr.nu;have key:=lH (E:=E) (T:=TY) (val:=gQ) (base:=bs) (z:=7) (keep:=[0,1,5,6]) (body:=rF) l.length (fun i=>((l.take i).filter fun p=>!(p.uid==id)).map Pod.c) (fun i w=>[(0,v),(1,.d (u64 id)),(5,w),(6,.d (i64 i))]) (fun w=>(.exit 0,[(5,w)])) (fun i hi bs' lo w hA=>?_) (fun bs' lo w hA W=>?_) bs bs.length _ (by simpa using Acc.nil bs 7)
 · obtain ⟨bs',lo',v',k1,k2⟩:=key;rw [List.take_length] at k2;obtain ⟨bs2,lo2,k3,k4⟩:=k2.ret (lo:=lo) (lo':=lo');refine ⟨bs2,lo2,v',?_,k4⟩;rw [aN bi7 bi8];have hnu:=k2.nu;simp at k1;simp [ae,Pi];rw [au];simp [k1];simp [hnu,bG,-bY];exact k3
 · have hx:=ac hi;have htk:l.take (i+1)=l.take i++[l[i]]:=by rw [List.take_add_one,hx]; rfl
   rw [htk,List.filter_append,List.map_append];have hal:(((l.take i).filter fun p=>!(p.uid==id)).map Pod.c).length<big:=by
    have:=List.length_filter_le (fun p:Pod=>!(p.uid==id)) (l.take i);simp at this ⊢;omega
   generalize ((l.take i).filter fun p=>!(p.uid==id)).map Pod.c=acc at *;generalize l[i]=y at *;obtain ⟨b,b1,b2,b3,b4,b5,b6⟩:=hr.at (i:=i) (e:=y.c) (by simp [hx]);have hw:=ak hi hlen;have h0:((i:Int)<l.length):=by omega
   have hnu:=hA.nu;have hg:=hA.get b4;have s1:=b6 1 (by decide);have s7:=b6 7 (by decide);by_cases c2:y.uid=id
   · refine ⟨bs',lo,w,by simpa [c2] using hA,fun W=>?_⟩;simp [rF,hvl,hvn,h0,b3,hg,s1,s7,hw,c2,Pod.c]
   · obtain ⟨v',bs2,lo2,ha,hA'⟩:=(hA.lay [.cells (y.c.map .d)]).app (by decide) (by_:=72) (by decide) (e:=y.c) rfl hal lo (r:=bs'.length) (cap:=some 1) (by simp);refine ⟨bs2,lo2,v',by simpa [c2] using hA',fun W=>?_⟩;simp [Pod.c] at ha s1 s7;simp [rF,hvl,hvn,h0,b3,hg,s1,s7,hw,c2,Pod.c,hnu,aH,ha,hA'.nu]
 · simp [rF,hvl,hvn]
end
section
variable {E:Calls'}
theorem Acc.weak {bs ys bs':List Blk}{z:Nat}{acc:List (List D)}{v:V}(h:Acc (bs++ys) z acc bs' v):Acc bs z acc bs' v:=by
 have:=h.len;simp at this;refine ⟨by omega,fun x hx=>by rw [h.old x (by simp; omega),ao hx],?_,h.wid⟩;rcases h.is with h1 | ⟨h1,b,h2,h3,h4⟩
 · exact .inl h1
 · exact .inr ⟨h1,b,by simp at h2; omega,h3,h4⟩
theorem VJ:TY 83=some LA:=by kernel_rfl
theorem VK:gQ 83=false:=by kernel_rfl
theorem Xx (l:List Pol)(hl:l.length<big)(x:Pol){L M:Nat}{bs:List Blk}{v:V}(hr:Row1 L M bs 5 (l.map Pol.c) v)(lo:Nat):∃ bs' lo' v',Cd E TY gQ (.loop [0,3,5,6,7] jZ) [(0,v),(3,.ptr bs.length 0),(5,.d (.slice true [])),(6,bl false),(7,.d (i64 0))] ⟨bs++[.cells (x.c.map .d)],lo⟩=some (.exit 0,[(3,.ptr bs.length 0),(5,v'),(6,bl (l.any fun z=>decide (Pol.id z>=Pol.id x)))],⟨bs',lo'⟩)/\Acc (bs++[.cells (x.c.map .d)]) 5 ((dL Pol.id x false l).map Pol.c) bs' v':=by
 have hlen:l.length<2 ^ 62:=Nat.lt_trans hl (by decide);have hb:af (bs++[.cells (x.c.map .d)]) bs.length=some (x.c.map .d):=by simp
 have hvl:=hr.len;simp only [bx] at hvl;have hvn:=hr.nu;have key:=lH (E:=E) (T:=TY) (val:=gQ) (base:=bs++[.cells (x.c.map .d)]) (z:=5) (keep:=[0,3,5,6,7]) (body:=jZ) l.length (fun i=>(dL Pol.id x false (l.take i)).map Pol.c) (fun i w=>[(0,v),(3,.ptr bs.length 0),(5,w),(6,bl ((l.take i).any fun z=>decide (Pol.id z>=Pol.id x))),(7,.d (i64 i))]) (fun w=>(.exit 0,[(3,.ptr bs.length 0),(5,w),(6,bl (l.any fun z=>decide (Pol.id z>=Pol.id x)))])) (fun i hi bs' lo w hA=>?_) (fun bs' lo w hA W=>?_) (bs++[.cells (x.c.map .d)]) lo _ (by simpa [dL] using Acc.nil (bs++[.cells (x.c.map .d)]) 5)
 · simpa using key
 · have hx:=ac hi;have htk:l.take (i+1)=l.take i++[l[i]]:=by rw [List.take_add_one,hx]; rfl
   have hplen:=nL Pol.id x (l.take i) false;simp only [List.length_take,bm,if_false] at hplen;rw [htk,rD,List.map_append,List.any_append];generalize l[i]=y at *;obtain ⟨b,b1,b2,b3,b4,b5,b6⟩:=hr.at (i:=i) (e:=y.c) (by simp [hx]);have hw:=ak hi hlen;have h0:((i:Int)<l.length):=by omega
   have hl1:((dL Pol.id x false (l.take i)).map Pol.c).length<big:=by
    simp only [bx]; omega
   have hl2:((l.take i).any fun z=>decide (Pol.id z>=Pol.id x))=false->((dL Pol.id x false (l.take i)).map Pol.c).length+1<big:=fun h=>by
    rw [iP _ _ _ h]; simp only [bx,List.length_take]; omega
   generalize (dL Pol.id x false (l.take i)).map Pol.c=acc at *;have hnu:=hA.nu;have hg:=hA.get hb;have hgb:=hA.get (ax (ys:=[.cells (x.c.map .d)]) b4);have s1:=b6 1 (by decide);have s5:=b6 5 (by decide);have hpf:∀ b,(false||b)=b:=fun b=>by cases b<;>rfl
   rw [hpf];simp [Pol.c] at s1 s5;cases hpl:((l.take i).any fun z=>decide (Pol.id z>=Pol.id x)) with
   | true =>
    by_cases c2:y.id=x.id
    · refine ⟨bs',lo,w,by simpa [jN,c2] using hA,fun W=>?_⟩;simp [jZ,hg,h0,hvl,hvn,b3,hgb,s1,s5,hnu,aH,hw,c2,Pol.c]
    · obtain ⟨v',bs2,lo',ha,hA'⟩:=(hA.lay [.cells (y.c.map .d)]).app (by decide) (by_:=64) (by decide) (e:=y.c) rfl (by omega) lo (r:=bs'.length) (cap:=some 1) (by simp);refine ⟨bs2,lo',v',by simpa [jN,c2] using hA',fun W=>?_⟩;simp [Pol.c] at ha;simp [jZ,hg,h0,hvl,hvn,b3,hgb,s1,s5,hnu,aH,hw,c2,ha,hA'.nu,Pol.c]
   | false =>
    by_cases c1:y.id>=x.id
    · obtain ⟨v',bs1,lo',ha,hA'⟩:=(hA.lay [.cells (x.c.map .d)]).app (by decide) (by_:=64) (by decide) (e:=x.c) rfl (by omega) lo (r:=bs'.length) (cap:=some 1) (by simp);have hg':=hA'.get hb;have hgb':=hA'.get (ax (ys:=[.cells (x.c.map .d)]) b4);by_cases c2:y.id=x.id
      · refine ⟨bs1,lo',v',by simpa [jN,c2] using hA',fun W=>?_⟩;simp [Pol.c] at ha hg';simp [jZ,hg,h0,hvl,hvn,b3,hgb,hgb',s1,s5,hnu,aH,hw,c2,ha,hA'.nu,hg',Pol.c]
      · obtain ⟨v2,bs2,lo2,ha2,hA2⟩:=(hA'.lay [.cells (y.c.map .d)]).app (by decide) (by_:=64) (by decide) (e:=y.c) rfl (by simpa using hl2 hpl) lo' (r:=bs1.length) (cap:=some 1) (by simp);refine ⟨bs2,lo2,v2,by simpa [jN,c2,c1] using hA2,fun W=>?_⟩;simp [Pol.c] at ha hg' ha2;simp [jZ,hg,h0,hvl,hvn,b3,hgb,hgb',s1,s5,hnu,aH,hw,c1,c2,ha,ha2,hA'.nu,hA2.nu,hg',Pol.c]
    · obtain ⟨v',bs1,lo',ha,hA'⟩:=(hA.lay [.cells (y.c.map .d)]).app (by decide) (by_:=64) (by decide) (e:=y.c) rfl (by omega) lo (r:=bs'.length) (cap:=some 1) (by simp);have c2:y.id≠x.id:=by omega
      refine ⟨bs1,lo',v',by simpa [jN,c2,c1] using hA',fun W=>?_⟩;simp [Pol.c] at ha;simp [jZ,hg,h0,hvl,hvn,b3,hgb,s1,s5,hnu,aH,hw,c1,c2,ha,hA'.nu,Pol.c]
 · simp [jZ,hvl,hvn]
theorem Yk (l:List Pol)(hl:l.length<big)(x:Pol){L M:Nat}{bs:List Blk}{v:V}(hr:Row1 L M bs 5 (l.map Pol.c) v)(lo:Nat) :
 ∃ bs' lo' v',Sm E TY gQ 83 [v,ag x.c] ⟨bs,lo⟩=some (v',⟨bs',lo'⟩)/\Acc bs 5 ((cB Pol.id x l).map Pol.c) bs' v':=by
 obtain ⟨bs1,lo1,v1,a1,A⟩:=Xx (E:=E) l hl x hr bs.length;have hnu:=A.nu;have hg:=A.get (x:=bs.length) (cs:=x.c.map .d) (by simp);cases hp:(l.any fun z=>decide (Pol.id z>=Pol.id x)) with
 | true =>
  have he:cB Pol.id x l=dL Pol.id x false l:=by simp [cB,hp]
  rw [hp] at a1;rw [he];obtain ⟨bs2,lo2,k3,k4⟩:=A.weak.ret (lo:=lo) (lo':=lo1);refine ⟨bs2,lo2,v1,?_,k4⟩;rw [aN VJ VK];simp [ae,LA];rw [au];simp [a1];simp [hnu,bG,-bY];exact k3
 | false =>
  have he:cB Pol.id x l=l++[x]:=by rw [cB,hp,iP _ _ _ hp]; rfl
  rw [hp] at a1;rw [iP _ _ _ hp] at A;obtain ⟨v',bs',lo',ha,hA'⟩:=(A.lay [.cells (x.c.map .d)]).app (by decide) (by_:=64) (by decide) (e:=x.c) rfl (by simpa using hl) lo1 (r:=bs1.length) (cap:=some 1) (by simp);obtain ⟨bs2,lo2,k3,k4⟩:=hA'.weak.ret (lo:=lo) (lo':=lo');rw [he];refine ⟨bs2,lo2,v',?_,by simpa using k4⟩;rw [aN VJ VK];simp [ae,LA];rw [au];simp [a1];simp [hnu,hg,aH,ha,hA'.nu,bG,-bY];exact k3
end
section
variable {E:Calls'}
theorem Row1.datN {L M z:Nat}{bs:List Blk}{es:List (List D)}{v:V}(h:Row1 L M bs z es v)(hn:v≠.d (.slice true []))(lo k:Nat):dataV ⟨bs,lo⟩ (k+1) v=some (.slice false es):=by
 rcases h.2 with ⟨_,rfl⟩ | ⟨b,cap,h1,h2,rfl,h3,_⟩
 · exact absurd rfl hn
 · rw [dX h.1 rfl (rest:=[]) (by simpa using h3)]
theorem Row1.datE {L M z:Nat}{bs:List Blk}{es:List (List D)}{v:V}(h:Row1 L M bs z es v)(hn:es=[]->v=.d (.slice true []))(lo k:Nat):dataV ⟨bs,lo⟩ (k+1) v=some (.slice es.isEmpty es):=by
 rcases h.2 with ⟨rfl,rfl⟩ | ⟨b,cap,h1,h2,rfl,h3,h4 | h4⟩
 · rfl
 · rw [dX h.1 rfl (rest:=[]) (by simpa using h3)];cases es with
   | nil=>exact absurd rfl h4.2
   | cons _ _=>rfl
 · cases hn h4.2
def z8:List V:=[.d (.int .u64 0),.d (.int .u64 0),.d (i64 0),.d (i64 0),.d (.slice true []),.d (.slice true []),.d (.slice true []),.d (.slice true [])]
def Cfg.cp (c:Cfg):Cfg:={ c with pods:=eO c.pods,services:=eO c.services,bound:=eO c.bound,policies:=gp (c.policies.l.map Pol.cp) }
structure DS (c:Cfg) (e:Edt) (L0 L1 L2 L3:Nat) (H:List Blk) (v4 v5 v6 v7:V):Prop where
 c0:af H 0=some (cq c v4 v5 v6 v7)
 e1:af H 1=some (e.c.map .d)
 a2:af H 2=some z8
 l0:3<=L0
 l1:L0<=L1
 l2:L1<=L2
 l3:L2<=L3
 l4:L3<=H.length
 r4:Row1 L0 L1 H 7 (c.pods.l.map Pod.c) v4
 r5:Row1 L1 L2 H 5 (c.services.l.map Svc.c) v5
 r6:Row1 L2 L3 H 2 (c.bound.l.map Way.c) v6
 r7:Row1 L3 H.length H 5 (c.policies.l.map fun r=>r.cp.c) v7
 n4:v4≠.d (.slice true [])
 n5:v5≠.d (.slice true [])
 n6:v6≠.d (.slice true [])
 n7:c.policies.l=[]->v7=.d (.slice true [])
theorem dW {c:Cfg}{h:Hp}{v4 v5 v6 v7:V}{d4 d5 d6 d7:D}(h4:dataV h 8 v4=some d4)(h5:dataV h 8 v5=some d5)(h6:dataV h 8 v6=some d6)(h7:dataV h 8 v7=some d7) :
 bW h (cq c v4 v5 v6 v7)=some [u64 c.epoch,u64 c.next,i64 c.hosts,i64 c.ways,d4,d5,d6,d7]:=by
 simp only [cq,Az];simp [bW,h4,h5,h6,h7]
theorem Cfg.cp_c (c:Cfg):c.cp.c=[u64 c.epoch,u64 c.next,i64 c.hosts,i64 c.ways,.slice false (c.pods.l.map Pod.c),.slice false (c.services.l.map Svc.c),.slice false (c.bound.l.map Way.c),.slice (c.policies.l.map fun r=>r.cp.c).isEmpty (c.policies.l.map fun r=>r.cp.c)]:=by
 simp [Cfg.cp,Cfg.c,Sl.d,eO,gp,cj]
theorem DS.cells {c:Cfg}{e:Edt}{L0 L1 L2 L3:Nat}{H:List Blk}{v4 v5 v6 v7:V}(h:DS c e L0 L1 L2 L3 H v4 v5 v6 v7)(lo:Nat):bW ⟨H,lo⟩ (cq c v4 v5 v6 v7)=some c.cp.c:=by
 rw [dW (h.r4.datN h.n4 lo 7) (h.r5.datN h.n5 lo 7) (h.r6.datN h.n6 lo 7) (h.r7.datE (fun h0=>h.n7 (by simpa using h0)) lo 7),Cfg.cp_c]
theorem Gc (hE:DoesE E)(c:Cfg)(hc:c.ok)(e:Edt):∃ H lo v4 v5 v6 v7 L0 L1 L2 L3,Sm E TY gQ 7 [c.v] ⟨[.cells (c.c.map .d),.cells (e.c.map .d),.cells z8],0⟩=some (.agg (cq c v4 v5 v6 v7),⟨H,lo⟩)/\af H 0=some (c.c.map .d)/\DS c e L0 L1 L2 L3 (H.set 0 (.cells (cq c v4 v5 v6 v7))) v4 v5 v6 v7:=by
 obtain ⟨H,lo,v4,v5,v6,v7,L0,L1,L2,L3,a,k,l0,l1,l2,l3,l4,r4,r5,r6,r7,n4,n5,n6,n7⟩:=S34 hE c hc [.cells (c.c.map .d),.cells (e.c.map .d),.cells z8] 0;simp at l0;have hH:∀ x,x<3->H[x]?=[Blk.cells (c.c.map .d),.cells (e.c.map .d),.cells z8][x]?:=fun x hx=>k x (by simpa using hx);have g0:af H 0=some (c.c.map .d):=by unfold af; rw [hH 0 (by decide)]; rfl
 have ho:∀ x,3<=x->(H.set 0 (.cells (cq c v4 v5 v6 v7)))[x]?=H[x]?:=fun x hx=>am (by omega);refine ⟨H,lo,v4,v5,v6,v7,L0,L1,L2,L3,a,g0,?_,?_,?_,l0,l1,l2,l3,by simpa using l4,r4.on fun x h1 _=>ho x (by omega),r5.on fun x h1 _=>ho x (by omega),r6.on fun x h1 _=>ho x (by omega),?_,n4,n5,n6,n7⟩
 · have:=aI g0;simp [af,this]
 · unfold af; rw [am (by decide),hH 1 (by decide)]; rfl
 · unfold af; rw [am (by decide),hH 2 (by decide)]; rfl
 · simpa using r7.on fun x h1 _=>ho x (by omega)
end
section
variable {E:Calls'}
theorem y96:TY 27=some q96:=by kernel_rfl
theorem z96:gQ 27=true:=by kernel_rfl
theorem aK {bs:List Blk}{x:Nat}{cs cs0:List V}(h:af bs x=some cs0):af (bs.set x (.cells cs)) x=some cs:=by simp [af,aI h]
theorem aS {bs:List Blk}{x y:Nat}{cs:List V}(h:y≠x):af (bs.set y (.cells cs)) x=af bs x:=by unfold af; rw [am h]
theorem cs1 {c:Cfg}{a b d e:V}:sub (cq c a b d e) 1 1=some [.d (u64 c.next)]:=(rfl)
theorem Source.cp_fits {s:Source}(h:s.fits big):s.cp.fits big:=⟨⟨h.1.1,fun h=>by cases h⟩,⟨h.2.1.1,fun h=>by cases h⟩,⟨h.2.2.1,fun h=>by cases h⟩⟩
theorem Target.cp_fits {s:Target}(h:s.fits big):s.cp.fits big:=⟨⟨h.1.1,fun h=>by cases h⟩,⟨h.2.1.1,fun h=>by cases h⟩,⟨h.2.2.1.1,fun h=>by cases h⟩,⟨h.2.2.2.1,fun h=>by cases h⟩⟩
theorem When.cp_fits {s:When}(h:s.fits big):s.cp.fits big:=⟨h.1,fun h=>by cases h⟩
theorem ru {α:Type}{l:List α}(h:l.length<=big):fit big (gp l):=⟨h,fun h=>by simpa [gp] using h⟩
theorem Rule.cp_fits {r:Rule}(h:r.fits big):r.cp.fits big:=by
 refine ⟨⟨ru (by simpa using h.1.1.1),fun s hs=>?_⟩,⟨ru (by simpa using h.2.1.1.1),fun s hs=>?_⟩,ru (by simpa using h.2.2.1.1),fun s hs=>?_⟩
 · obtain ⟨y,hy,rfl⟩:=b9.1 (show s∈r.frm.l.map Source.cp from hs);exact Source.cp_fits (h.1.2 y hy)
 · obtain ⟨y,hy,rfl⟩:=b9.1 (show s∈r.to.l.map Target.cp from hs);exact Target.cp_fits (h.2.1.2 y hy)
 · obtain ⟨y,hy,rfl⟩:=b9.1 (show s∈r.whn.l.map When.cp from hs);exact When.cp_fits (h.2.2.2 y hy)
theorem cp_fits {p:Pol}(h:p.fits big):p.cp.fits big:=by
 refine ⟨ru (by simpa using h.1.1),fun s hs=>?_⟩;obtain ⟨y,hy,rfl⟩:=b9.1 (show s∈p.rules.l.map Rule.cp from hs);exact Rule.cp_fits (h.2 y hy)
def Gives (E:Calls')(c:Cfg)(e:Edt)(o:Cfg)(k:Int):Prop:=∃ d:List D,d.length=8/\(k=0->d=o.c)/\∀ h,Sm E TY gQ 27 [c.v,ag e.c] h=some (.tup [ag d,.d (i64 k)],h)
theorem Row1.app {L M z:Nat}{bs:List Blk}{es:List (List D)}{v:V}(h:Row1 L M bs z es v)(hz0:0<z){by_:Nat}(hby:by_<=4096)(hl:es.length<big){e:List D}(he:e.length=z){r:Nat}{cap:Option Nat}(hr:af bs r=some (e.map .d))(hM:M<=bs.length) :
 ∃ v' bs',∃ F:Nat->Nat,(∀ lo,dZ ⟨bs,lo⟩ z by_ v (.row r 0 1 cap z)=some (v',⟨bs',F lo⟩))/\Row1 bs.length bs'.length bs' z (es++[e]) v'/\v'≠.d (.slice true [])/\(∀ x,x<bs.length->x<L\/M<=x->bs'[x]?=bs[x]?)/\bs.length<=bs'.length:=by
 have hrc:∀ lo,aD ⟨bs,lo⟩ (.row r 0 1 cap z) z=some (1,e.map .d):=fun lo=>by
  have:sub (e.map V.d) 0 z=some (e.map V.d):=bH (by simpa using he);simp only [aD,if_true,get_eq,hr,Nat.one_mul,this,Option.map_some]
 have hroom:∀ n,n<=big->roomy n by_=true:=fun n hn=>by simp only [roomy,aq,br]; exact ⟨hn,hby⟩
 have hwid:∀ x∈es++[e],x.length=z:=fun x hx=>by
  rcases List.mem_append.1 hx with h1 | h1
  · exact h.1 x h1
  · simp at h1; rw [h1]; exact he
 have hfe:flat (es++[e])=flat es++e.map .d:=by rw [jE]; simp [flat]
 rcases h.2 with ⟨rfl,rfl⟩ | ⟨b,cap',h1,h2,rfl,h3,⟨rfl,h4⟩ | ⟨rfl,rfl⟩⟩
 · refine ⟨.row bs.length 0 1 none z,bs++[.cells (e.map .d)],id,fun lo=>by simp only [dZ,hrc,aF,if_neg (show ¬ (1=0) by decide),if_neg (show ¬ z=0 by omega),hroom 1 (by decide),if_true]; rfl,⟨hwid,.inr ⟨bs.length,none,bp _,by simp,rfl,by simp [flat],.inl ⟨rfl,by simp⟩⟩⟩,by simp,fun x hx _=>ao hx,by simp⟩
 · have hfl:=flat_len h.1;have hsub:sub (flat es) 0 (es.length * z)=some (flat es):=bH hfl;have hpos:0<(flat es).length:=by rw [hfl]; exact Nat.mul_pos (by cases es with | nil=>exact absurd rfl h4 | cons _ _=>simp) hz0
   have hbl:=aI h3;refine ⟨.row bs.length 0 (es.length+1) none z,bs.set b (.cells [])++[.cells (flat es++e.map .d)],fun lo=>min lo b,fun lo=>by simp only [dZ,hrc,aF,ne_eq,not_true_eq_false,false_or,if_neg (show ¬ (1=0) by decide),if_neg (show ¬ z=0 by omega),get_eq,h3,hsub,hroom (es.length+1) (by omega),Bool.not_true,bm,if_false,hpos,and_self,if_true,Hp.size,Hp.alloc,Hp.set,List.length_set],⟨hwid,.inr ⟨bs.length,none,bp _,by simp,by simp,?_,.inl ⟨rfl,by simp⟩⟩⟩,by simp,fun x hx hx2=>?_,by simp⟩
   · have:af (bs.set b (.cells [])++[.cells (flat es++e.map .d)]) (bs.set b (.cells [])).length=some (flat es++e.map .d):=by rw [di]; rfl
     rw [List.length_set] at this;rw [hfe];exact this
   · rw [ao (by simpa using hx),am (by omega)]
 · have hsub:sub (flat []) 0 (0 * z)=some (flat []):=by simp
   refine ⟨.row bs.length 0 1 none z,bs++[.cells (e.map .d)],id,fun lo=>by
    simp only [dZ,hrc,aF,ne_eq,not_true_eq_false,false_or,if_neg (show ¬ (1=0) by decide),if_neg (show ¬ z=0 by omega),get_eq,h3,hsub,cg,hroom (0+1) (by decide),Bool.not_true,bm,if_false,show ¬ (0+1<=0) by omega,Hp.size,Hp.alloc]; rfl,⟨hwid,.inr ⟨bs.length,none,bp _,by simp,rfl,by simp [flat],.inl ⟨rfl,by simp⟩⟩⟩,by simp,fun x hx _=>ao hx,by simp⟩
theorem gG {α:Type}(q:α->Bool):∀ (l:List α),(cu l q=-1/\l.find? q=none)\/∃ (k:Nat) (x:α),cu l q=(k:Int)/\l[k]?=some x/\q x=true/\l.find? q=some x
 | []=>.inl ⟨rfl,rfl⟩
 | y::l=>by
  cases hy:q y with
  | true=>exact .inr ⟨0,y,by simp [cu,List.findIdx?_cons,hy],rfl,hy,by simp [hy]⟩
  | false =>
   have hi:cu (y::l) q=match l.findIdx? q with
    | some k=>((k+1:Nat):Int)
    | none=>-1:=by
    simp only [cu,List.findIdx?_cons,hy,bm,if_false];cases l.findIdx? q<;>rfl
   rcases gG q l with ⟨h1,h2⟩ | ⟨k,x,h1,h2,h3,h4⟩
   · refine .inl ⟨?_,by simp [hy,h2]⟩;rw [hi];unfold cu at h1;cases hf:l.findIdx? q with
     | none=>rfl
     | some k=>rw [hf] at h1; simp at h1<;>omega
   · refine .inr ⟨k+1,x,?_,by simpa using h2,h3,by simp [hy,h4]⟩;rw [hi];unfold cu at h1;cases hf:l.findIdx? q with
     | none=>rw [hf] at h1; simp at h1<;>omega
     | some j=>rw [hf] at h1; simp at h1 ⊢; omega
theorem cqs {c:Cfg}{a b d e:V}:sub (cq c a b d e) 1 1=some [.d (u64 c.next)]/\sub (cq c a b d e) 4 1=some [a]/\sub (cq c a b d e) 5 1=some [b]/\sub (cq c a b d e) 6 1=some [d]/\sub (cq c a b d e) 7 1=some [e]/\sub (cq c a b d e) 0 8=some (cq c a b d e)/\(cq c a b d e).length=8:=⟨rfl,rfl,rfl,rfl,rfl,rfl,rfl⟩
theorem cqp {c:Cfg}{a b d e x:V}:put (cq c a b d e) 4 [x]=some (cq c x b d e)/\put (cq c a b d e) 5 [x]=some (cq c a x d e)/\put (cq c a b d e) 6 [x]=some (cq c a b x e)/\put (cq c a b d e) 7 [x]=some (cq c a b d x):=⟨rfl,rfl,rfl,rfl⟩
theorem jS (hE:DoesE E)(c:Cfg)(hc:c.ok)(e:Edt):∃ H lo v4 v5 v6 v7 L0 L1 L2 L3,Sm E TY gQ 7 [c.v] ⟨[.cells (c.c.map .d),.cells (e.c.map .d),.cells [.d (.int .u64 0),.d (.int .u64 0),.d (i64 0),.d (i64 0),.d (.slice true []),.d (.slice true []),.d (.slice true []),.d (.slice true [])]],0⟩=some (.agg (cq c v4 v5 v6 v7),⟨H,lo⟩)/\af H 0=some (c.c.map .d)/\DS c e L0 L1 L2 L3 (H.set 0 (.cells (cq c v4 v5 v6 v7))) v4 v5 v6 v7 ∧
 3<=L0/\L0<=L1/\L1<=L2/\L2<=L3/\L3<=(H.set 0 (.cells (cq c v4 v5 v6 v7))).length ∧
 ((nu v4=some v4/\okV v4=true/\v4.cells=some [v4])/\(nu v5=some v5/\okV v5=true/\v5.cells=some [v5])/\(nu v6=some v6/\okV v6=true/\v6.cells=some [v6])/\nu v7=some v7/\okV v7=true/\v7.cells=some [v7]) ∧
 (∀ B B' lo,dataV ⟨(H.set 0 (.cells B)).set 2 (.cells B'),lo⟩ 8 v4=some (.slice false (c.pods.l.map Pod.c)))/\(∀ B B' lo,dataV ⟨(H.set 0 (.cells B)).set 2 (.cells B'),lo⟩ 8 v5=some (.slice false (c.services.l.map Svc.c)))/\(∀ B B' lo,dataV ⟨(H.set 0 (.cells B)).set 2 (.cells B'),lo⟩ 8 v6=some (.slice false (c.bound.l.map Way.c))) ∧
 (∀ B B' lo,dataV ⟨(H.set 0 (.cells B)).set 2 (.cells B'),lo⟩ 8 v7=some (.slice (c.policies.l.map fun r=>r.cp.c).isEmpty (c.policies.l.map fun r=>r.cp.c))) ∧
 (List.drop 8 (List.map V.d c.c)=[]/\(List.map V.d c.c).length=8/\(∀ B,af (H.set 0 (.cells B)) 0=some B)/\(∀ B,af (H.set 0 (.cells B)) 1=some (e.c.map .d))/\(∀ B,af (H.set 0 (.cells B)) 2=some [.d (.int .u64 0),.d (.int .u64 0),.d (i64 0),.d (i64 0),.d (.slice true []),.d (.slice true []),.d (.slice true []),.d (.slice true [])])/\∀ B B',af ((H.set 0 (.cells B)).set 2 (.cells B')) 2=some B') ∧
 (∀ lo,bW ⟨(H.set 0 (.cells (cq c v4 v5 v6 v7))).set 2 (.cells (cq c v4 v5 v6 v7)),lo⟩ (cq c v4 v5 v6 v7)=some c.cp.c)/\∀ lo,frz ⟨H.set 0 (.cells (cq c v4 v5 v6 v7)),lo⟩ (.agg (cq c v4 v5 v6 v7))=some (ag c.cp.c):=by
 obtain ⟨H,lo,v4,v5,v6,v7,L0,L1,L2,L3,a,g0,S⟩:=Gc hE c hc e;have c0:=S.c0; have c1:=S.e1; have c2:=S.a2;have m0:=S.l0; have m1:=S.l1; have m2:=S.l2; have m3:=S.l3; have m4:=S.l4;have u4:=S.r4.nu; have u5:=S.r5.nu; have u6:=S.r6.nu; have u7:=S.r7.nu;have o4:=S.r4.ok; have o5:=S.r5.ok; have o6:=S.r6.ok; have o7:=S.r7.ok;have t4:=S.r4.cl; have t5:=S.r5.cl; have t6:=S.r6.cl; have t7:=S.r7.cl;have hcv:c.v=.agg (c.c.map .d):=rfl;have hd8:List.drop 8 (List.map V.d c.c)=[]:=rfl;have hl8:(List.map V.d c.c).length=8:=rfl;have ho:∀ (B B':List V) (x:Nat),3<=x->((H.set 0 (.cells B)).set 2 (.cells B'))[x]?=(H.set 0 (.cells (cq c v4 v5 v6 v7)))[x]?:=fun B B' x hx=>by rw [am (by omega),am (by omega),am (by omega)]
 have f4:=fun B B' lo=>(S.r4.on (bs':=(H.set 0 (.cells B)).set 2 (.cells B')) fun x h1 _=>ho B B' x (by omega)).datN S.n4 lo 7;have f5:=fun B B' lo=>(S.r5.on (bs':=(H.set 0 (.cells B)).set 2 (.cells B')) fun x h1 _=>ho B B' x (by omega)).datN S.n5 lo 7;have f6:=fun B B' lo=>(S.r6.on (bs':=(H.set 0 (.cells B)).set 2 (.cells B')) fun x h1 _=>ho B B' x (by omega)).datN S.n6 lo 7;have f7:=fun B B' lo=>(S.r7.on (bs':=(H.set 0 (.cells B)).set 2 (.cells B')) fun x h1 _=>ho B B' x (by omega)).datE (fun h0=>S.n7 (by simpa using h0)) lo 7;have g0':∀ B,af (H.set 0 (.cells B)) 0=some B:=fun B=>aK g0;have gn:∀ B x,x≠0->af (H.set 0 (.cells B)) x=af (H.set 0 (.cells (cq c v4 v5 v6 v7))) x:=fun B x hx=>by rw [aS (Ne.symm hx),aS (Ne.symm hx)]
 have g1':∀ B,af (H.set 0 (.cells B)) 1=some (e.c.map .d):=fun B=>by rw [gn B 1 (by decide)]; exact c1
 have g2':∀ B,af (H.set 0 (.cells B)) 2=some z8:=fun B=>by rw [gn B 2 (by decide)]; exact c2
 have g2s:∀ B B',af ((H.set 0 (.cells B)).set 2 (.cells B')) 2=some B':=fun B B'=>aK (g2' B);have fe:=fun lo=>(dW (c:=c) (f4 (cq c v4 v5 v6 v7) (cq c v4 v5 v6 v7) lo) (f5 (cq c v4 v5 v6 v7) (cq c v4 v5 v6 v7) lo) (f6 (cq c v4 v5 v6 v7) (cq c v4 v5 v6 v7) lo) (f7 (cq c v4 v5 v6 v7) (cq c v4 v5 v6 v7) lo)).trans (congrArg some (Cfg.cp_c c).symm);simp only [z8] at a g2';exact ⟨H,lo,v4,v5,v6,v7,L0,L1,L2,L3,a,g0,S,m0,m1,m2,m3,m4,⟨⟨u4,o4,t4⟩,⟨u5,o5,t5⟩,⟨u6,o6,t6⟩,u7,o7,t7⟩,f4,f5,f6,f7,⟨hd8,hl8,g0',g1',g2',g2s⟩,fe,fun lo=>by rw [nA,S.cells lo]⟩
theorem lU {c:Cfg}(hc:c.ok):c.cp.ok:=⟨⟨hc.1.1,fun h=>by cases h⟩,⟨hc.2.1.1,fun h=>by cases h⟩,⟨hc.2.2.1.1,fun h=>by cases h⟩,⟨by simpa [Cfg.cp,gp] using hc.2.2.2.1.1,fun h=>by simpa [Cfg.cp,gp] using h⟩,fun p hp=>by
 obtain ⟨p0,h1,rfl⟩:=b9.1 (show p∈c.policies.l.map Pol.cp from hp);exact cp_fits (hc.2.2.2.2 p0 h1)⟩
theorem Rc (hE:DoesE E)(c:Cfg)(hc:c.ok)(e:Edt)(hk:∀ k:Int,1<=k->k<=9->e.kind≠k):Gives E c e c 1:=by
 obtain ⟨H,lo,v4,v5,v6,v7,L0,L1,L2,L3,a,g0,S,m0,m1,m2,m3,m4,U,f4,f5,f6,f7,G,fe,fra⟩:=jS hE c hc e;obtain ⟨hd8,hl8,g0',g1',g2',g2s⟩:=G;refine ⟨c.cp.c,rfl,fun h=>(by omega),fun h=>?_⟩;have k1:=hk 1 (by decide) (by decide); have k2:=hk 2 (by decide) (by decide); have k3:=hk 3 (by decide) (by decide);have k4:=hk 4 (by decide) (by decide); have k5:=hk 5 (by decide) (by decide); have k6:=hk 6 (by decide) (by decide);have k7:=hk 7 (by decide) (by decide); have k8:=hk 8 (by decide) (by decide); have k9:=hk 9 (by decide) (by decide);rw [aV y96 z96];simp +decide [ae,q96,a,g0,hd8,hl8,g0',g1',g2',g2s,cqs,cqp,U,ai,aa,av,fe,k1,k2,k3,k4,k5,k6,k7,k8,k9]
theorem Q6 (hE:DoesE E)(c:Cfg)(hc:c.ok)(e:Edt)(hk:e.kind=4)(hl:c.services.l.length<big):Gives E c e { c.cp with services:=⟨false,cB Svc.id e.svc c.services.l⟩ } 0:=by
 obtain ⟨H,lo,v4,v5,v6,v7,L0,L1,L2,L3,a,g0,S,m0,m1,m2,m3,m4,U,f4,f5,f6,f7,G,fe,fra⟩:=jS hE c hc e;obtain ⟨hd8,hl8,g0',g1',g2',g2s⟩:=G;have fr:=fun lo=>(show frz ⟨H.set 0 (.cells (cq c v4 v5 v6 v7)),lo⟩ v5=some (.d ((eO c.services).d Svc.c)) from by
  have:=S.r5.datN S.n5 lo 7;rcases S.r5.2 with ⟨_,h⟩ | ⟨b,cap,h1,h2,h3,_⟩
  · exact absurd h S.n5
  · rw [h3] at this ⊢; simp only [yY,this]; rfl)
 have hcall:=fun lo=>(bC (E:=E) (T:=TY) (val:=gQ) (f:=79) (by kernel_rfl)).trans (hE.e218 (eO c.services) e.svc ⟨hc.2.1.1,fun h=>by cases h⟩ hl v5 ⟨H.set 0 (.cells (cq c v4 v5 v6 v7)),lo⟩ (fr lo));have fz:∀ lo,bW ⟨(H.set 0 (.cells (cq c v4 (.d ((⟨false,cB Svc.id e.svc c.services.l⟩:Sl Svc).d Svc.c)) v6 v7))).set 2 (.cells (cq c v4 (.d ((⟨false,cB Svc.id e.svc c.services.l⟩:Sl Svc).d Svc.c)) v6 v7)),lo⟩ (cq c v4 (.d ((⟨false,cB Svc.id e.svc c.services.l⟩:Sl Svc).d Svc.c)) v6 v7)=some ({ c.cp with services:=⟨false,cB Svc.id e.svc c.services.l⟩ }:Cfg).c:=fun lo=>by
  rw [dW (c:=c) (d5:=(⟨false,cB Svc.id e.svc c.services.l⟩:Sl Svc).d Svc.c) (f4 _ _ lo) uM (f6 _ _ lo) (f7 _ _ lo)];simp [Cfg.cp,Cfg.c,Sl.d,eO,gp,cj]
 refine ⟨_,Cfg.len,fun _=>rfl,fun h=>?_⟩;simp only [eO] at hcall;rw [aV y96 z96];simp +decide [ae,q96,a,g0,hd8,hl8,g0',g1',g2',g2s,cqs,cqp,U,ai,aa,av,fe,hk,hcall,fz]
theorem Q8 (hE:DoesE E)(c:Cfg)(hc:c.ok)(e:Edt)(hk:e.kind=6)(hl:c.bound.l.length<big):Gives E c e { c.cp with bound:=⟨false,cB Way.id e.way c.bound.l⟩ } 0:=by
 obtain ⟨H,lo,v4,v5,v6,v7,L0,L1,L2,L3,a,g0,S,m0,m1,m2,m3,m4,U,f4,f5,f6,f7,G,fe,fra⟩:=jS hE c hc e;obtain ⟨hd8,hl8,g0',g1',g2',g2s⟩:=G;have fr:=fun lo=>(show frz ⟨H.set 0 (.cells (cq c v4 v5 v6 v7)),lo⟩ v6=some (.d ((eO c.bound).d Way.c)) from by
  have:=S.r6.datN S.n6 lo 7;rcases S.r6.2 with ⟨_,h⟩ | ⟨b,cap,h1,h2,h3,_⟩
  · exact absurd h S.n6
  · rw [h3] at this ⊢; simp only [yY,this]; rfl)
 have hcall:=fun lo=>(bC (E:=E) (T:=TY) (val:=gQ) (f:=81) (by kernel_rfl)).trans (hE.e219 (eO c.bound) e.way ⟨hc.2.2.1.1,fun h=>by cases h⟩ hl v6 ⟨H.set 0 (.cells (cq c v4 v5 v6 v7)),lo⟩ (fr lo));have fz:∀ lo,bW ⟨(H.set 0 (.cells (cq c v4 v5 (.d ((⟨false,cB Way.id e.way c.bound.l⟩:Sl Way).d Way.c)) v7))).set 2 (.cells (cq c v4 v5 (.d ((⟨false,cB Way.id e.way c.bound.l⟩:Sl Way).d Way.c)) v7)),lo⟩ (cq c v4 v5 (.d ((⟨false,cB Way.id e.way c.bound.l⟩:Sl Way).d Way.c)) v7)=some ({ c.cp with bound:=⟨false,cB Way.id e.way c.bound.l⟩ }:Cfg).c:=fun lo=>by
  rw [dW (c:=c) (d6:=(⟨false,cB Way.id e.way c.bound.l⟩:Sl Way).d Way.c) (f4 _ _ lo) (f5 _ _ lo) uM (f7 _ _ lo)];simp [Cfg.cp,Cfg.c,Sl.d,eO,gp,cj]
 refine ⟨_,Cfg.len,fun _=>rfl,fun h=>?_⟩;simp only [eO] at hcall;rw [aV y96 z96];simp +decide [ae,q96,a,g0,hd8,hl8,g0',g1',g2',g2s,cqs,cqp,U,ai,aa,av,fe,hk,hcall,fz]
theorem Ra (hE:DoesE E)(c:Cfg)(hc:c.ok)(e:Edt)(hp:e.pol.fits big)(hk:e.kind=8)(hl:c.policies.l.length<big):Gives E c e { c.cp with policies:=⟨false,cB Pol.id e.pol.cp (c.policies.l.map Pol.cp)⟩ } 0:=by
 obtain ⟨H,lo,v4,v5,v6,v7,L0,L1,L2,L3,a,g0,S,m0,m1,m2,m3,m4,U,f4,f5,f6,f7,G,fe,fra⟩:=jS hE c hc e;obtain ⟨hd8,hl8,g0',g1',g2',g2s⟩:=G;have r7:Row1 L3 (H.set 0 (.cells (cq c v4 v5 v6 v7))).length (H.set 0 (.cells (cq c v4 v5 v6 v7))) 5 ((c.policies.l.map Pol.cp).map Pol.c) v7:=by
  rw [List.map_map]; exact S.r7
 have s35:=fun h=>(bC (E:=E) (val:=gQ) y35).trans (hE.e35 e.pol hp h);obtain ⟨b2,lo2,w7,s220,A⟩:=Yk (E:=E) (c.policies.l.map Pol.cp) (by simpa using hl) e.pol.cp r7 H.length;have hlb:=A.len;simp at hlb m4;have hK:∀ (B B':List V) (x:Nat),3<=x->x<H.length->((b2.set 0 (.cells B)).set 2 (.cells B'))[x]?=(H.set 0 (.cells (cq c v4 v5 v6 v7)))[x]?:=fun B B' x hx hx2=>by
  rw [am (by omega),am (by omega),A.old x (by simpa using hx2)]
 have hw7:=A.row1;simp at hw7;have uw:=A.nu;have tw:=A.cl;have ow:=hw7.ok;have k0:=A.get (g0' (cq c v4 v5 v6 v7));have k2:=A.get (g2' (cq c v4 v5 v6 v7));have k0s:af (b2.set 0 (.cells (cq c v4 v5 v6 w7))) 0=some (cq c v4 v5 v6 w7):=aK k0;have k2s:af (b2.set 0 (.cells (cq c v4 v5 v6 w7))) 2=some _:=(aS (by decide)).trans k2;have k2t:∀ B,af ((b2.set 0 (.cells (cq c v4 v5 v6 w7))).set 2 (.cells B)) 2=some B:=fun B=>aK k2s;have fz:∀ lo,bW ⟨(b2.set 0 (.cells (cq c v4 v5 v6 w7))).set 2 (.cells (cq c v4 v5 v6 w7)),lo⟩ (cq c v4 v5 v6 w7)=some ({ c.cp with policies:=⟨false,cB Pol.id e.pol.cp (c.policies.l.map Pol.cp)⟩ }:Cfg).c:=fun lo=>by
  have hne:=zt Pol.id e.pol.cp (c.policies.l.map Pol.cp);have he:((cB Pol.id e.pol.cp (c.policies.l.map Pol.cp)).map Pol.c).isEmpty=false:=by simpa using hne
  rw [dW (c:=c) ((S.r4.on fun x h1 h2=>hK _ _ x (by omega) (by omega)).datN S.n4 lo 7) ((S.r5.on fun x h1 h2=>hK _ _ x (by omega) (by omega)).datN S.n5 lo 7) ((S.r6.on fun x h1 h2=>hK _ _ x (by omega) (by omega)).datN S.n6 lo 7)
   ((hw7.on fun x h1 h2=>by rw [am (by omega),am (by omega)]).datE (fun h0=>absurd (by simpa using h0) hne) lo 7),he]
  simp [Cfg.cp,Cfg.c,Sl.d,eO,gp,cj]
 refine ⟨_,Cfg.len,fun _=>rfl,fun h=>?_⟩;rw [aV y96 z96];simp +decide [ae,q96,a,g0,hd8,hl8,g0',g1',g2',g2s,cqs,cqp,U,ai,aa,av,fe,hk,s35,s220];have hfin:∀ t:Tr,t=t->True:=fun _ _=>trivial;by_cases q1:H.length<=lo2
 · by_cases q2:b2.length=H.length
   · have hb2:b2=H.set 0 (.cells (cq c v4 v5 v6 v7)):=by
      refine List.ext_getElem? fun x=>?_;by_cases hx:x<H.length
      · exact A.old x (by simpa using hx)
      · rw [bb (by omega),bb (by simp; omega)]
     rw [if_pos q1,if_pos q2,← hb2];simp +decide [k0,k2,k0s,k2s,k2t,cql,cq7,cs8,uw,tw,ow,fz,aT,List.range,List.range.loop,Tr.spares]
   · rw [if_pos q1,if_neg q2];simp +decide [k0,k2,k0s,k2s,k2t,cql,cq7,cs8,uw,tw,ow,fz,aT,List.range,List.range.loop,Tr.spares]
 · rw [if_neg q1];simp +decide [k0,k2,k0s,k2s,k2t,cql,cq7,cs8,uw,tw,ow,fz,aT,List.range,List.range.loop,Tr.spares]
theorem Q3 (hE:DoesE E)(c:Cfg)(hc:c.ok)(e:Edt)(hk:e.kind=1)(hl:c.pods.l.length<big):Gives E c e { c.cp with next:=wrap .u64 (c.next+1),pods:=⟨false,c.pods.l++[{ e.pod with uid:=c.next }]⟩ } 0:=by
 obtain ⟨H,lo,v4,v5,v6,v7,L0,L1,L2,L3,a,g0,S,m0,m1,m2,m3,m4,U,f4,f5,f6,f7,G,fe,fra⟩:=jS hE c hc e;obtain ⟨hd8,hl8,g0',g1',g2',g2s⟩:=G;have hH0:0<H.length:=aI g0;simp at m4;have hs0:∀ (A B:List V) (ys:List Blk),(H.set 0 (.cells A)++ys).set 0 (.cells B)=H.set 0 (.cells B)++ys:=fun A B ys=>by rw [List.set_append_left _ _ (by simpa using hH0),List.set_set]
 have gy:∀ (A y:List V) (ys:List Blk),af (H.set 0 (.cells A)++Blk.cells y::ys) H.length=some y:=fun A y ys=>by
  have:=di (bs:=H.set 0 (Blk.cells A)) (ys:=Blk.cells y::ys);rw [List.length_set] at this;rw [this]; rfl
 have hsy:∀ (A y z:List V),(H.set 0 (Blk.cells A)++[Blk.cells y]).set H.length (Blk.cells z)=H.set 0 (Blk.cells A)++[Blk.cells z]:=fun A y z=>by
  rw [List.set_append_right _ _ (by simp)]; simp
 let cN:Cfg:={ c with next:=wrap .u64 (c.next+1) }
 let p:Pod:={ e.pod with uid:=c.next }
 have r4:Row1 L0 L1 (H.set 0 (.cells (cq cN v4 v5 v6 v7))++[.cells (p.c.map .d),.cells (p.c.map .d)]) 7 (c.pods.l.map Pod.c) v4:=S.r4.on fun x h1 h2=>by rw [ao (by simp; omega),am (by omega),am (by omega)]
 obtain ⟨w4,b2,F,ha,rw4,nw4,ko,kl⟩:=r4.app (by decide) (by_:=72) (by decide) (by simpa using hl) (e:=p.c) rfl (r:=H.length+1) (cap:=some 1) (by
  have:=gD (bs:=H.set 0 (.cells (cq cN v4 v5 v6 v7))) (ys:=[Blk.cells (p.c.map .d),.cells (p.c.map .d)]) (i:=1);rw [List.length_set] at this;rw [this]; rfl) (by simp; omega)
 simp at kl ko;have hK:∀ (B B':List V) (x:Nat),L1<=x->x<H.length->((b2.set 0 (.cells B)).set 2 (.cells B'))[x]?=(H.set 0 (.cells (cq c v4 v5 v6 v7)))[x]?:=fun B B' x hx hx2=>by
  rw [am (by omega),am (by omega),ko x (by omega) (.inr hx),ao (by simpa using hx2),am (by omega),am (by omega)]
 have uw:=rw4.nu; have tw:=rw4.cl; have ow:=rw4.ok;have k0:af b2 0=some (cq cN v4 v5 v6 v7):=by
  have h1:=ax (ys:=[Blk.cells (p.c.map .d),Blk.cells (p.c.map .d)]) (g0' (cq cN v4 v5 v6 v7));rw [← h1]; unfold af; rw [ko 0 (by omega) (.inl (by omega))]
 have k2:af b2 2=some [.d (.int .u64 0),.d (.int .u64 0),.d (i64 0),.d (i64 0),.d (.slice true []),.d (.slice true []),.d (.slice true []),.d (.slice true [])]:=by
  have h1:=ax (ys:=[Blk.cells (p.c.map .d),Blk.cells (p.c.map .d)]) (g2' (cq cN v4 v5 v6 v7));rw [← h1]; unfold af; rw [ko 2 (by omega) (.inl (by omega))]
 have k0s:af (b2.set 0 (.cells (cq cN w4 v5 v6 v7))) 0=some (cq cN w4 v5 v6 v7):=aK k0;have k2s:af (b2.set 0 (.cells (cq cN w4 v5 v6 v7))) 2=some _:=(aS (by decide)).trans k2;have k2t:∀ B,af ((b2.set 0 (.cells (cq cN w4 v5 v6 v7))).set 2 (.cells B)) 2=some B:=fun B=>aK k2s;have fz:∀ lo,bW ⟨(b2.set 0 (.cells (cq cN w4 v5 v6 v7))).set 2 (.cells (cq cN w4 v5 v6 v7)),lo⟩ (cq cN w4 v5 v6 v7)=some ({ c.cp with next:=wrap .u64 (c.next+1),pods:=⟨false,c.pods.l++[{ e.pod with uid:=c.next }]⟩ }:Cfg).c:=fun lo=>by
  rw [dW (c:=cN) ((rw4.on fun x h1 h2=>by simp at h1; rw [am (by omega),am (by omega)]).datN nw4 lo 7) ((S.r5.on fun x h1 h2=>hK _ _ x (by omega) (by omega)).datN S.n5 lo 7) ((S.r6.on fun x h1 h2=>hK _ _ x (by omega) (by omega)).datN S.n6 lo 7)
   ((S.r7.on fun x h1 h2=>hK _ _ x (by omega) (by simpa using h2)).datE (fun h0=>S.n7 (by simpa using h0)) lo 7)]
  simp [cN,p,Cfg.cp,Cfg.c,Sl.d,eO,gp,cj]
 refine ⟨_,Cfg.len,fun _=>rfl,fun h=>?_⟩;have ga0:∀ (A:List V) (ys:List Blk),af (H.set 0 (.cells A)++ys) 0=some A:=fun A ys=>ax (g0' A);have ga1:∀ (A:List V) (ys:List Blk),af (H.set 0 (.cells A)++ys) 1=some (e.c.map .d):=fun A ys=>ax (g1' A);have hp0:put (e.pod.c.map V.d) 0 [.d (u64 c.next)]=some (p.c.map .d):=rfl;have hcp:∀ a b d x:V,put (cq c a b d x) 1 [.d (u64 (wrap .u64 (c.next+1)))]=some (cq cN a b d x):=fun _ _ _ _=>rfl;rw [aV y96 z96];simp +decide [ae,q96,a,g0,hd8,hl8,g0',g1',g2',g2s,cqs,cqp,U,ai,aa,av,fe,hk,hs0,ga0,ga1,gy,hsy,hp0,hcp,aH,ha,k0,k2,k0s,k2s,k2t,uw,tw,ow,fz]
theorem Ed (hE:DoesE E)(c:Cfg)(hc:c.ok)(e:Edt)(hk:e.kind=2\/e.kind=3)(hf:c.pods.l.find? (fun p=>p.uid==e.id)=none):Gives E c e c 4:=by
 obtain ⟨H,lo,v4,v5,v6,v7,L0,L1,L2,L3,a,g0,S,m0,m1,m2,m3,m4,U,f4,f5,f6,f7,G,fe,fra⟩:=jS hE c hc e;obtain ⟨hd8,hl8,g0',g1',g2',g2s⟩:=G;have hco:=lU hc;have hi:cu c.cp.pods.l (fun p=>p.uid==e.id)=-1:=by
  rcases gG (fun p:Pod=>p.uid==e.id) c.pods.l with ⟨h1,_⟩ | ⟨_,_,_,_,_,h4⟩
  · exact h1
  · rw [hf] at h4; cases h4
 have hcall:=fun lo=>(bC (E:=E) (T:=TY) (val:=gQ) (f:=77) (by kernel_rfl)).trans (hE.e46 c.cp e.id hco (.agg (cq c v4 v5 v6 v7)) ⟨H.set 0 (.cells (cq c v4 v5 v6 v7)),lo⟩ (fra lo));rw [hi] at hcall;refine ⟨c.cp.c,rfl,fun h=>(by omega),fun h=>?_⟩;rw [aV y96 z96];rcases hk with hk | hk
 · simp +decide [ae,q96,a,g0,hd8,hl8,g0',g1',g2',g2s,cqs,cqp,U,ai,aa,av,fe,hk,hcall]
 · simp +decide [ae,q96,a,g0,hd8,hl8,g0',g1',g2',g2s,cqs,cqp,U,ai,aa,av,fe,hk,hcall]
theorem Q4 (hE:DoesE E)(c:Cfg)(hc:c.ok)(e:Edt)(hk:e.kind=2){p:Pod}(hf:c.pods.l.find? (fun p=>p.uid==e.id)=some p):Gives E c e { c.cp with pods:=gp (c.pods.l.filter fun x=>!(x.uid==e.id)) } 0:=by
 obtain ⟨H,lo,v4,v5,v6,v7,L0,L1,L2,L3,a,g0,S,m0,m1,m2,m3,m4,U,f4,f5,f6,f7,G,fe,fra⟩:=jS hE c hc e;obtain ⟨hd8,hl8,g0',g1',g2',g2s⟩:=G;have hco:=lU hc;obtain ⟨k,hi,hx⟩:∃ k:Nat,cu c.cp.pods.l (fun p=>p.uid==e.id)=(k:Int)/\c.pods.l[k]?=some p:=by
  rcases gG (fun p:Pod=>p.uid==e.id) c.pods.l with ⟨_,h2⟩ | ⟨k,x,h1,h2,_,h4⟩
  · rw [hf] at h2; cases h2
  · rw [hf] at h4; cases h4; exact ⟨k,h1,h2⟩
 have hcall:=fun lo=>(bC (E:=E) (T:=TY) (val:=gQ) (f:=77) (by kernel_rfl)).trans (hE.e46 c.cp e.id hco (.agg (cq c v4 v5 v6 v7)) ⟨H.set 0 (.cells (cq c v4 v5 v6 v7)),lo⟩ (fra lo));rw [hi] at hcall;have hk0:¬ ((k:Int)<0):=by omega
 have hH0:0<H.length:=aI g0;simp at m4;obtain ⟨b,b1,bb2,b3,b4,b5,b6⟩:=S.r4.at (i:=k) (e:=p.c) (by simp [hx]);have s7:=b6 7 (by decide);have hsz:sub (p.c.map V.d) 0 7=some (p.c.map V.d):=bH rfl;rw [hsz] at s7;have hsy:∀ (A y z:List V),(H.set 0 (Blk.cells A)++[Blk.cells y]).set H.length (Blk.cells z)=H.set 0 (Blk.cells A)++[Blk.cells z]:=fun A y z=>by
  rw [List.set_append_right _ _ (by simp)]; simp
 have gy:∀ (A y:List V) (ys:List Blk),af (H.set 0 (.cells A)++Blk.cells y::ys) H.length=some y:=fun A y ys=>by
  have:=di (bs:=H.set 0 (Blk.cells A)) (ys:=Blk.cells y::ys);rw [List.length_set] at this;rw [this]; rfl
 have ga0:∀ (A:List V) (ys:List Blk),af (H.set 0 (.cells A)++ys) 0=some A:=fun A ys=>ax (g0' A);have ga1:∀ (A:List V) (ys:List Blk),af (H.set 0 (.cells A)++ys) 1=some (e.c.map .d):=fun A ys=>ax (g1' A);have ga2:∀ (A:List V) (ys:List Blk),af (H.set 0 (.cells A)++ys) 2=some [.d (.int .u64 0),.d (.int .u64 0),.d (i64 0),.d (i64 0),.d (.slice true []),.d (.slice true []),.d (.slice true []),.d (.slice true [])]:=fun A ys=>ax (g2' A);have r4:Row1 L0 L1 (H.set 0 (.cells (cq c v4 v5 v6 v7))++[Blk.cells (p.c.map .d)]) 7 (c.pods.l.map Pod.c) v4:=S.r4.on fun x h1 h2=>by rw [ao (by simp; omega)]
 obtain ⟨b2,lo2,w4,s217,A⟩:=Sz (E:=E) c.pods.l hc.1.1 e.id r4 0;have hlb:=A.len;simp at hlb;have kp:af b2 H.length=some (p.c.map .d):=A.get (gy _ _ _);have k0:=A.get (ga0 (cq c v4 v5 v6 v7) [Blk.cells (p.c.map .d)]);have k1:=A.get (ga1 (cq c v4 v5 v6 v7) [Blk.cells (p.c.map .d)]);have k2:=A.get (ga2 (cq c v4 v5 v6 v7) [Blk.cells (p.c.map .d)]);have hw4:=A.row1;simp at hw4;have uw:=A.nu;have tw:=A.cl;have ow:=hw4.ok;have k0s:∀ B,af (b2.set 0 (.cells B)) 0=some B:=fun B=>aK k0;have k1s:∀ B,af (b2.set 0 (.cells B)) 1=some (e.c.map .d):=fun B=>(aS (by decide)).trans k1;have k2s:∀ B,af (b2.set 0 (.cells B)) 2=some [.d (.int .u64 0),.d (.int .u64 0),.d (i64 0),.d (i64 0),.d (.slice true []),.d (.slice true []),.d (.slice true []),.d (.slice true [])]:=fun B=>(aS (by decide)).trans k2;have k2t:∀ B B',af ((b2.set 0 (.cells B)).set 2 (.cells B')) 2=some B':=fun B B'=>aK (k2s B);have hK:∀ (B B':List V) (x:Nat),3<=x->x<H.length->((b2.set 0 (.cells B)).set 2 (.cells B'))[x]?=(H.set 0 (.cells (cq c v4 v5 v6 v7)))[x]?:=fun B B' x hx hx2=>by
  rw [am (by omega),am (by omega),A.old x (by simp; omega),ao (by simpa using hx2)]
 have fz:∀ lo,bW ⟨(b2.set 0 (.cells (cq c w4 v5 v6 v7))).set 2 (.cells (cq c w4 v5 v6 v7)),lo⟩ (cq c w4 v5 v6 v7)=some ({ c.cp with pods:=gp (c.pods.l.filter fun x=>!(x.uid==e.id)) }:Cfg).c:=fun lo=>by
  rw [dW (c:=c) ((hw4.on fun x h1 h2=>by rw [am (by omega),am (by omega)]).datE (fun h0=>by
   rcases A.is with ⟨_,h⟩ | ⟨h,_⟩
   · exact h
   · exact absurd h0 h) lo 7) ((S.r5.on fun x h1 h2=>hK _ _ x (by omega) (by omega)).datN S.n5 lo 7) ((S.r6.on fun x h1 h2=>hK _ _ x (by omega) (by omega)).datN S.n6 lo 7)
   ((S.r7.on fun x h1 h2=>hK _ _ x (by omega) (by simpa using h2)).datE (fun h0=>S.n7 (by simpa using h0)) lo 7)]
  simp [Cfg.cp,Cfg.c,Sl.d,eO,gp,cj]
 refine ⟨_,Cfg.len,fun _=>rfl,fun h=>?_⟩;rw [aV y96 z96];simp +decide [ae,q96,a,g0,hd8,hl8,g0',g1',g2',g2s,cqs,cqp,U,ai,aa,av,fe,hk,hcall,hk0,b3,b4,s7,hsy,gy,ga0,ga1,ga2,s217,kp,k0,k1,k2,k0s,k1s,k2s,k2t,uw,tw,ow,fz,-Ci,-pF]
theorem Q5 (hE:DoesE E)(c:Cfg)(hc:c.ok)(e:Edt)(hk:e.kind=3){p:Pod}(hf:c.pods.l.find? (fun p=>p.uid==e.id)=some p)(hl:c.pods.l.length<big):Gives E c e { c.cp with next:=wrap .u64 (c.next+1),pods:=⟨false,(c.pods.l.filter fun x=>!(x.uid==e.id))++[{ p with uid:=c.next,host:=e.pod.host,addr:=e.pod.addr }]⟩ } 0:=by
 obtain ⟨H,lo,v4,v5,v6,v7,L0,L1,L2,L3,a,g0,S,m0,m1,m2,m3,m4,U,f4,f5,f6,f7,G,fe,fra⟩:=jS hE c hc e;obtain ⟨hd8,hl8,g0',g1',g2',g2s⟩:=G;have hco:=lU hc;obtain ⟨k,hi,hx⟩:∃ k:Nat,cu c.cp.pods.l (fun p=>p.uid==e.id)=(k:Int)/\c.pods.l[k]?=some p:=by
  rcases gG (fun p:Pod=>p.uid==e.id) c.pods.l with ⟨_,h2⟩ | ⟨k,x,h1,h2,_,h4⟩
  · rw [hf] at h2; cases h2
  · rw [hf] at h4; cases h4; exact ⟨k,h1,h2⟩
 have hcall:=fun lo=>(bC (E:=E) (T:=TY) (val:=gQ) (f:=77) (by kernel_rfl)).trans (hE.e46 c.cp e.id hco (.agg (cq c v4 v5 v6 v7)) ⟨H.set 0 (.cells (cq c v4 v5 v6 v7)),lo⟩ (fra lo));rw [hi] at hcall;have hk0:¬ ((k:Int)<0):=by omega
 have hH0:0<H.length:=aI g0;simp at m4;obtain ⟨b,b1,bb2,b3,b4,b5,b6⟩:=S.r4.at (i:=k) (e:=p.c) (by simp [hx]);have s7:=b6 7 (by decide);have hsz:sub (p.c.map V.d) 0 7=some (p.c.map V.d):=bH rfl;rw [hsz] at s7;have hsy:∀ (A y z:List V),(H.set 0 (Blk.cells A)++[Blk.cells y]).set H.length (Blk.cells z)=H.set 0 (Blk.cells A)++[Blk.cells z]:=fun A y z=>by
  rw [List.set_append_right _ _ (by simp)]; simp
 have gy:∀ (A y:List V) (ys:List Blk),af (H.set 0 (.cells A)++Blk.cells y::ys) H.length=some y:=fun A y ys=>by
  have:=di (bs:=H.set 0 (Blk.cells A)) (ys:=Blk.cells y::ys);rw [List.length_set] at this;rw [this]; rfl
 have ga0:∀ (A:List V) (ys:List Blk),af (H.set 0 (.cells A)++ys) 0=some A:=fun A ys=>ax (g0' A);have ga1:∀ (A:List V) (ys:List Blk),af (H.set 0 (.cells A)++ys) 1=some (e.c.map .d):=fun A ys=>ax (g1' A);have ga2:∀ (A:List V) (ys:List Blk),af (H.set 0 (.cells A)++ys) 2=some [.d (.int .u64 0),.d (.int .u64 0),.d (i64 0),.d (i64 0),.d (.slice true []),.d (.slice true []),.d (.slice true []),.d (.slice true [])]:=fun A ys=>ax (g2' A);have r4:Row1 L0 L1 (H.set 0 (.cells (cq c v4 v5 v6 v7))++[Blk.cells (p.c.map .d)]) 7 (c.pods.l.map Pod.c) v4:=S.r4.on fun x h1 h2=>by rw [ao (by simp; omega)]
 obtain ⟨b2,lo2,w4,s217,A⟩:=Sz (E:=E) c.pods.l hc.1.1 e.id r4 0;have hlb:=A.len;simp at hlb;have kp:af b2 H.length=some (p.c.map .d):=A.get (gy _ _ _);have k0:=A.get (ga0 (cq c v4 v5 v6 v7) [Blk.cells (p.c.map .d)]);have k1:=A.get (ga1 (cq c v4 v5 v6 v7) [Blk.cells (p.c.map .d)]);have k2:=A.get (ga2 (cq c v4 v5 v6 v7) [Blk.cells (p.c.map .d)]);have hw4:=A.row1;simp at hw4;have uw:=A.nu;have tw:=A.cl;have ow:=hw4.ok
 let cN:Cfg:={ c with next:=wrap .u64 (c.next+1) }
 let q:Pod:={ p with uid:=c.next,host:=e.pod.host,addr:=e.pod.addr }
 have k0s:∀ B,af (b2.set 0 (.cells B)) 0=some B:=fun B=>aK k0;have k1s:∀ B,af (b2.set 0 (.cells B)) 1=some (e.c.map .d):=fun B=>(aS (by decide)).trans k1;have k2s:∀ B,af (b2.set 0 (.cells B)) 2=some [.d (.int .u64 0),.d (.int .u64 0),.d (i64 0),.d (i64 0),.d (.slice true []),.d (.slice true []),.d (.slice true []),.d (.slice true [])]:=fun B=>(aS (by decide)).trans k2;have kps:∀ B,af (b2.set 0 (.cells B)) H.length=some (p.c.map .d):=fun B=>(aS (by omega)).trans kp;have j0:∀ B P,af ((b2.set 0 (.cells B)).set H.length (.cells P)) 0=some B:=fun B P=>(aS (by omega)).trans (k0s B);have j1:∀ B P,af ((b2.set 0 (.cells B)).set H.length (.cells P)) 1=some (e.c.map .d):=fun B P=>(aS (by omega)).trans (k1s B);have j2:∀ B P,af ((b2.set 0 (.cells B)).set H.length (.cells P)) 2=some [.d (.int .u64 0),.d (.int .u64 0),.d (i64 0),.d (i64 0),.d (.slice true []),.d (.slice true []),.d (.slice true []),.d (.slice true [])]:=fun B P=>(aS (by omega)).trans (k2s B);have jp:∀ B P,af ((b2.set 0 (.cells B)).set H.length (.cells P)) H.length=some P:=fun B P=>aK (kps B);have hcm:∀ (A P B:List V),((b2.set 0 (Blk.cells A)).set H.length (Blk.cells P)).set 0 (Blk.cells B)=(b2.set 0 (Blk.cells B)).set H.length (Blk.cells P):=fun A P B=>by
  rw [List.set_comm _ _ (by omega),List.set_set]
 have hal:((c.pods.l.filter fun x=>!(x.uid==e.id)).map Pod.c).length<big:=by
  have:=List.length_filter_le (fun x:Pod=>!(x.uid==e.id)) c.pods.l;simp only [bx]; omega
 have r4':Row1 (H.length+1) b2.length ((b2.set 0 (.cells (cq cN w4 v5 v6 v7))).set H.length (.cells (q.c.map .d))++[Blk.cells (q.c.map .d)]) 7 ((c.pods.l.filter fun x=>!(x.uid==e.id)).map Pod.c) w4:=hw4.on fun x h1 h2=>by
  rw [ao (by simp; omega),am (by omega),am (by omega)]
 obtain ⟨w',bb3,F,ha,rw',nw',ko,kl⟩:=r4'.app (by decide) (by_:=72) (by decide) hal (e:=q.c) rfl (r:=b2.length) (cap:=some 1) (by
  have:=di (bs:=(b2.set 0 (Blk.cells (cq cN w4 v5 v6 v7))).set H.length (Blk.cells (q.c.map .d))) (ys:=[Blk.cells (q.c.map .d)]);rw [List.length_set,List.length_set] at this;rw [this]; rfl) (by simp)
 simp at kl ko;have uw':=rw'.nu; have tw':=rw'.cl; have ow':=rw'.ok;have i0:af bb3 0=some (cq cN w4 v5 v6 v7):=by
  have h1:=ax (ys:=[Blk.cells (q.c.map .d)]) (j0 (cq cN w4 v5 v6 v7) (q.c.map .d));rw [← h1]; unfold af; rw [ko 0 (by omega) (.inl (by omega))]
 have i2:af bb3 2=some [.d (.int .u64 0),.d (.int .u64 0),.d (i64 0),.d (i64 0),.d (.slice true []),.d (.slice true []),.d (.slice true []),.d (.slice true [])]:=by
  have h1:=ax (ys:=[Blk.cells (q.c.map .d)]) (j2 (cq cN w4 v5 v6 v7) (q.c.map .d));rw [← h1]; unfold af; rw [ko 2 (by omega) (.inl (by omega))]
 have i0s:∀ B,af (bb3.set 0 (.cells B)) 0=some B:=fun B=>aK i0;have i2s:∀ B,af (bb3.set 0 (.cells B)) 2=some [.d (.int .u64 0),.d (.int .u64 0),.d (i64 0),.d (i64 0),.d (.slice true []),.d (.slice true []),.d (.slice true []),.d (.slice true [])]:=fun B=>(aS (by decide)).trans i2;have i2t:∀ B B',af ((bb3.set 0 (.cells B)).set 2 (.cells B')) 2=some B':=fun B B'=>aK (i2s B);have hK:∀ (B B':List V) (x:Nat),3<=x->x<H.length->((bb3.set 0 (.cells B)).set 2 (.cells B'))[x]?=(H.set 0 (.cells (cq c v4 v5 v6 v7)))[x]?:=fun B B' x hx hx2=>by
  rw [am (by omega),am (by omega),ko x (by omega) (.inl (by omega)),ao (by simp; omega),am (by omega),am (by omega),A.old x (by simp; omega),ao (by simpa using hx2)]
 have fz:∀ lo,bW ⟨(bb3.set 0 (.cells (cq cN w' v5 v6 v7))).set 2 (.cells (cq cN w' v5 v6 v7)),lo⟩ (cq cN w' v5 v6 v7)=some ({ c.cp with next:=wrap .u64 (c.next+1),pods:=⟨false,(c.pods.l.filter fun x=>!(x.uid==e.id))++[{ p with uid:=c.next,host:=e.pod.host,addr:=e.pod.addr }]⟩ }:Cfg).c:=fun lo=>by
  rw [dW (c:=cN) ((rw'.on fun x h1 h2=>by simp at h1; rw [am (by omega),am (by omega)]).datN nw' lo 7) ((S.r5.on fun x h1 h2=>hK _ _ x (by omega) (by omega)).datN S.n5 lo 7) ((S.r6.on fun x h1 h2=>hK _ _ x (by omega) (by omega)).datN S.n6 lo 7)
   ((S.r7.on fun x h1 h2=>hK _ _ x (by omega) (by simpa using h2)).datE (fun h0=>S.n7 (by simpa using h0)) lo 7)]
  simp [cN,q,Cfg.cp,Cfg.c,Sl.d,eO,gp,cj]
 have hcp:∀ a b d x:V,put (cq c a b d x) 1 [.d (u64 (wrap .u64 (c.next+1)))]=some (cq cN a b d x):=fun _ _ _ _=>rfl;have hp0:put (p.c.map V.d) 0 [.d (u64 c.next)]=some (({ p with uid:=c.next }:Pod).c.map .d):=rfl;have hp3:put (({ p with uid:=c.next }:Pod).c.map V.d) 3 [.d (i64 e.pod.host)]=some (({ p with uid:=c.next,host:=e.pod.host }:Pod).c.map .d):=rfl;have hp4:put (({ p with uid:=c.next,host:=e.pod.host }:Pod).c.map V.d) 4 [.d (u32 e.pod.addr)]=some (q.c.map .d):=rfl;have hl2:((b2.set 0 (Blk.cells (cq cN w4 v5 v6 v7))).set H.length (Blk.cells (q.c.map .d))).length=b2.length:=by simp
 refine ⟨_,Cfg.len,fun _=>rfl,fun h=>?_⟩;rw [aV y96 z96];simp +decide [ae,q96,a,g0,hd8,hl8,g0',g1',g2',g2s,cqs,cqp,U,ai,aa,av,fe,hk,hcall,hk0,b3,b4,s7,hsy,gy,ga0,ga1,ga2,s217,kp,k0,k1,k2,k0s,k1s,k2s,kps,j0,j1,j2,jp,hcm,hcp,hp0,hp3,hp4,aH,ax (j0 _ _),ha,i0,i2,i0s,i2s,i2t,uw,tw,ow,uw',tw',ow',fz,-Ci,-pF]
end
section
variable {E:Calls'}
theorem bN {ev:X->V}{x:X}{d k:Nat}(h:ev x=.d (i64 k)):cZ ev (some x) d=some k:=by simp [cZ,h]
theorem b0 {ev:X->V}{d:Nat}:cZ ev none d=some d:=rfl
theorem zK {L M z:Nat}{bs:List Blk}{es:List (List D)}{v:V}(h:Row1 L M bs z es v)(hz0:0<z){by_:Nat}(hby:by_<=4096)(hl:es.length<=big){k:Nat}(hk:k<es.length)(hLM:M<=bs.length) :
 ∃ s1 s2 w bs2,∃ F:Nat->Nat,(∀ hp ev x1 x2,ev x1=.d (i64 k)->ev x2=.d (i64 k)->bP hp ev .sl z v none (some x1) (some x2)=some s1)/\(∀ hp ev x1,ev x1=.d (i64 (k+1:Nat))->bP hp ev .sl z v (some x1) none none=some s2) ∧
  (nu s1=some s1/\okV s1=true/\nu s2=some s2/\okV s2=true) ∧
  (∀ lo,dZ ⟨bs,lo⟩ z by_ s1 s2=some (w,⟨bs2,F lo⟩))/\(∀ x,x<bs.length->bs2[x]?=bs[x]?)/\bs.length<=bs2.length/\(w.cells=some [w]/\nu w=some w/\okV w=true) ∧
  ∀ bs' lo j,(∀ x,L<=x->x<bs2.length->bs'[x]?=bs2[x]?)->dataV ⟨bs',lo⟩ (j+1) w=some (.slice false (es.eraseIdx k)):=by
 rcases h.2 with ⟨rfl,rfl⟩ | ⟨b,cap,h1,h2,rfl,h3,_⟩
 · simp at hk
 · have hfl:=flat_len h.1;have hzz:¬ z=0:=by omega
   have hwE:∀ x∈es.eraseIdx k,x.length=z:=fun x hx=>h.1 x (List.mem_of_mem_eraseIdx hx);have hsp:es=es.take k++es[k]::es.drop (k+1):=by rw [← aw hk,List.take_append_drop]
   have hek:es[k].length=z:=h.1 _ (bh hk);have htl:(es.take k).length=k:=by simp; omega
   have hft:(flat (es.take k)).length=k * z:=by rw [flat_len fun x hx=>h.1 x (List.mem_of_mem_take hx),htl]
   have her:es.eraseIdx k=es.take k++es.drop (k+1):=List.eraseIdx_eq_take_drop_succ ..;have hcs:flat es=flat (es.take k)++(es[k].map .d++flat (es.drop (k+1))):=by
    conv=>lhs; rw [hsp,jE,flat_cons]
   have hsub0:sub (flat es) 0 (k * z)=some (flat (es.take k)):=by
    rw [hcs,su (by omega)]; exact bH hft
   by_cases hlast:k+1<es.length
   · have hdl:(es.drop (k+1)).length=es.length-(k+1):=by simp
     have hfd:(flat (es.drop (k+1))).length=(es.length-(k+1)) * z:=by rw [flat_len fun x hx=>h.1 x (List.mem_of_mem_drop hx),hdl]
     have hsub1:sub (flat es) ((k+1) * z) ((es.length-(k+1)) * z)=some (flat (es.drop (k+1))):=by
      rw [hcs,← List.append_assoc,show (k+1) * z=(flat (es.take k)++es[k].map V.d).length+0 by simp [hft,hek,Nat.succ_mul],ug];exact bH hfd
     have hroom:roomy (k+(es.length-(k+1))) by_=true:=by simp only [roomy,aq,br]; exact ⟨by have:big=2 ^ 30:=rfl; omega,hby⟩
     have hne:¬ es.length-(k+1)=0:=by omega
     refine ⟨.row b 0 k (some k) z,.row b ((k+1) * z) (es.length-(k+1)) (cap.map (· - (k+1))) z,.row bs.length 0 (k+(es.length-(k+1))) none z,bs++[.cells (flat (es.take k)++flat (es.drop (k+1)))],id,fun hp ev x1 x2 e1 e2=>?_,fun hp ev x1 e1=>?_,⟨rfl,rfl,rfl,rfl⟩,fun lo=>?_,fun x hx=>ao hx,by simp,⟨rfl,rfl,rfl⟩,fun bs' lo j hb=>?_⟩
     · simp only [bP,bN e1,bN e2,b0];rw [if_pos ⟨by omega,by omega,by omega,trivial,.inl trivial,rfl⟩];simp
     · simp only [bP,bN e1,b0];rw [if_pos ⟨by omega,by omega,trivial⟩,if_neg (by omega),if_pos (by omega)];simp
     · simp only [dZ,aD,if_true,get_eq,h3,hsub1,Option.map_some,aF,ne_eq,not_true_eq_false,false_or,if_neg hzz,if_neg hne,Nat.zero_add,hsub0,hroom,Bool.not_true,bm,if_false,if_neg (show ¬ (k+(es.length-(k+1))<=k) by omega),Hp.size,Hp.alloc];rfl
     · have hg:af bs' bs.length=some (flat (es.eraseIdx k)):=by
        unfold af;rw [hb bs.length (by omega) (by simp)];simp [her,jE]
       exact dX hwE (by rw [List.length_eraseIdx]; simp [hk]; omega) (rest:=[]) (by simpa using hg)
   · have hk1:k+1=es.length:=by omega
     refine ⟨.row b 0 k (some k) z,.d (.slice false []),.row b 0 k (some k) z,bs,id,fun hp ev x1 x2 e1 e2=>?_,fun hp ev x1 e1=>?_,⟨rfl,rfl,rfl,rfl⟩,fun lo=>?_,fun x hx=>rfl,by simp,⟨rfl,rfl,rfl⟩,fun bs' lo j hb=>?_⟩
     · simp only [bP,bN e1,bN e2,b0];rw [if_pos ⟨by omega,by omega,by omega,trivial,.inl trivial,rfl⟩];simp
     · simp only [bP,bN e1,b0];rw [if_pos ⟨by omega,by omega,trivial⟩,if_neg (by omega),if_neg (by omega)]
     · simp only [dZ,aD,List.all_nil,if_true,cg,aF,ne_eq,not_true_eq_false,false_or,if_neg hzz];rfl
     · have hg:af bs' b=some (flat (es.eraseIdx k)++es[k].map .d):=by
        unfold af at h3 ⊢;rw [hb b h1 (by omega),h3,hcs,her,ba (by omega)];simp
       exact dX hwE (by rw [List.length_eraseIdx]; simp [hk]; omega) (rest:=es[k].map .d) (by simpa using hg)
end
