/- view.put, view.apart, view.rising at uint64, at any width. -/
import Derived.Test.YtmakbdpnlfmclaaGreatTn
import Derived.KernelRfl
set_option linter.unnecessarySimpa false
set_option maxRecDepth 100000
set_option linter.unusedVariables false
set_option linter.unusedSimpArgs false
namespace Go.Proofs.YtmakbdpnlfmclaaGreat
section
def d9 (n:Int):List D:=[u64 n]
section
variable {E:Calls'}{T:FuncId->Option QF}{val:FuncId->Bool}
def KeptP {α:Type}(cells:α->List D)(z n:Nat)(nl:Bool)(l:List α)(bs:List Blk)(v:V):Prop :=
 (nl=true/\l=[]/\v=.d (.slice true []))\/(nl=false/\∃ B cap rest,n<=B/\v=.row B 0 l.length cap z/\ai bs B=some (flat (l.map cells)++rest)/\((cap=some 0/\l=[])\/(cap=none/\0<(flat (l.map cells)++rest).length)))
theorem KeptP.nu {α:Type}{cells:α->List D}{z n:Nat}{nl:Bool}{l:List α}{bs:List Blk}{v:V}(h:KeptP cells z n nl l bs v):Go.Proofs.YtmakbdpnlfmclaaGreat.nu v=some v/\okV v=true:=by
 obtain ⟨_,_,rfl⟩ | ⟨_,B,cap,rest,_,rfl,_⟩:=h<;>exact ⟨rfl,rfl⟩
theorem Eg {α:Type}{cells:α->List D}{z b cl clos del idx id:Nat}{zero:List V}(tcl:T cl=some (cloneQ z b zero))(vcl:val cl=false)(tdel:T del=some (delQ z idx zero))(vdel:val del=false)(tidx:T idx=some (idxQ z))(vidx:val idx=false)
 (tc:T clos=some (notQ z)) (vc:val clos=false) (tid:T id=some (keepQ cl clos del)) (vid:val id=false) (hz:∀ x,(cells x).length=z) (hz0:0<z) (hzero:zero.length=z) (hb:b<=4096) {s:Sl α} (hs:short s) {f:FuncId} {caps:List V} {q:α->Bool} {h:Hp}
 (hq:∀ e∈s.l,∀ bs lo,h.bs.length<=bs.length->(∀ x,x<h.bs.length->bs[x]?=h.bs[x]?)->Sm E T val f (ag (cells e)::caps) ⟨bs,lo⟩=some (bl (q e),⟨bs,lo⟩)) :
 ∃ r bs' lo',Sm E T val id [.d (s.d cells),.fn f caps] h=some (r,⟨bs',lo'⟩)/\h.bs.length<=bs'.length/\(∀ x,x<h.bs.length->bs'[x]?=h.bs[x]?)/\KeptP cells z h.bs.length s.nl (s.l.filter q) bs' r:=by
 obtain ⟨bs,lo0⟩:=h;simp only at hq ⊢;obtain ⟨nl,l⟩:=s;simp only at hq ⊢;have hcl:=iO (E:=E) (T:=T) (val:=val) tcl vcl hz0 hb (nl:=nl) (es:=l.map cells) (by simp; intro a _; exact hz a) (by simpa using hs.1) ⟨bs++[.cells [.fn f caps]],bs.length⟩;have hlen:l.length<2 ^ 62:=hs.lt;have hout:∀ {r:V} {bs':List Blk} {lo':Nat},r.under bs.length=false->gm ⟨bs,lo0⟩ (some (r,⟨bs',lo'⟩))=some (r,⟨bs',min lo0 lo'⟩):=λhu=>by
  rw [iQ,if_neg (λhh=>by rw [hu] at hh; cases hh.2)]
 have hun:∀ {B o n z:Nat} {cap:Option Nat},bs.length<=B->V.under bs.length (.row B o n cap z)=false:=λh=>by simp [V.under]; omega
 rw [ax tid vid];cases nl with
 | true =>
  have hl:=hs.2 rfl;simp at hl;subst hl;have h1:=fF (E:=E) (T:=T) (val:=val) cells (es:=[]) (z:=z) (idx:=idx) (zero:=zero) tidx vidx tdel vdel (v:=.d (.slice true [])) (f:=clos) (caps:=[.ptr bs.length 0]) (q:=λ_=>false) (h:=⟨bs++[.cells [.fn f caps]],bs.length⟩) ⟨by simp,.inl ⟨true,rfl⟩⟩ (by simp) (by simp) (by simp);simp [bH] at hcl;refine ⟨.d (.slice true []),bs,lo0,?_,bp _,λ_ _=>rfl,.inl ⟨rfl,by simp,rfl⟩⟩;simp [aa,keepQ,Sl.d,hcl,h1,V.under,aY]
 | false =>
  cases hll:l with
  | nil =>
   subst hll;have h1:=λlo=>fF (E:=E) (T:=T) (val:=val) cells (es:=[]) (z:=z) (idx:=idx) (zero:=zero) tidx vidx tdel vdel (v:=.row (bs.length+1) 0 0 (some 0) z) (f:=clos) (caps:=[.ptr bs.length 0]) (q:=λ_=>false) (h:=⟨bs++[.cells [.fn f caps],.cells []],lo⟩) ⟨by simp,.inr ⟨bs.length+1,0,some 0,[],rfl,by unfold ai; rw [bk (by omega)]; simp,by simp [eT]⟩⟩ (by simp) (by simp) (by simp);simp [bH] at hcl;refine ⟨.row (bs.length+1) 0 0 (some 0) z,bs++[.cells [.fn f caps],.cells []],min lo0 bs.length,?_,by simp,λx hx=>by rw [al hx],.inr ⟨rfl,bs.length+1,some 0,[],by omega,rfl,by unfold ai; rw [bk (by omega)]; simp,.inl ⟨rfl,rfl⟩⟩⟩;refine Eq.trans ?_ (hout (lo':=bs.length) (hun (by omega)))
   congr 1
   simp [aa,keepQ,Sl.d,hcl,h1,aY]
  | cons p l' =>
   have hne:l≠[]:=by rw [hll]; simp
   have hLz:0<l.length * z:=Nat.mul_pos (List.length_pos_iff.2 hne) hz0;rw [← hll];have hc2:bH z false (l.map cells) (bs++[.cells [.fn f caps]]) bs.length=(.row (bs.length+2) 0 l.length none z,⟨bs++[.cells [.fn f caps],.cells [],.cells (flat (l.map cells))],bs.length⟩):=by
    rw [hll]; simp [bH]
   rw [hc2] at hcl;simp at hcl;have hbF:ai (bs++[.cells [.fn f caps],.cells [],.cells (flat (l.map cells))]) (bs.length+2)=some (flat (l.map cells)):=by unfold ai; rw [bk (by omega)]; simp
   have hold:∀ x,x<bs.length->(bs++[Blk.cells [.fn f caps],.cells [],.cells (flat (l.map cells))])[x]?=bs[x]?:=λx hx=>by rw [al hx]
   have hcall:∀ e∈l,∀ bs2 lo2,bs.length+3<=bs2.length->(∀ x,x≠bs.length+2->x<bs.length+3->bs2[x]?=(bs++[.cells [.fn f caps],.cells [],.cells (flat (l.map cells))])[x]?)->Sm E T val clos (.agg ((cells e).map .d)::[.ptr bs.length 0]) ⟨bs2,lo2⟩=some (.d (.bool (!q e)),⟨bs2,lo2⟩):=by
    intro e he bs2 lo2 hle ho;refine IX tc vc (hz e) (f:=f) (caps:=caps) (p:=q e) ?_ λys lo=>?_
    . have:=ho bs.length (by omega) (by omega);simp only [ai];rw [this,bk (by omega)]; simp
    . refine hq e he _ lo (by simp; omega) λx hx=>?_;simp only;rw [al (by omega),ho x (by omega) (by omega)];exact hold x hx
   have hnn:(l.filter λe=>!(!q e))=l.filter q:=by simp
   by_cases hqq:∃ e∈l,(!q e)=true
   . obtain ⟨bs',lo',rest,k1,k2,k3,k4,k5,k6⟩:=qc (E:=E) (T:=T) (val:=val) hz hz0 hzero tidx vidx tdel vdel (es:=l) (b:=bs.length+2) (cap:=none) (f:=clos) (caps:=[.ptr bs.length 0]) (q:=λe=>!q e) (h:=⟨bs++[.cells [.fn f caps],.cells [],.cells (flat (l.map cells))],bs.length⟩) hbF hlen (λe he bs2 lo2 a b=>hcall e he bs2 lo2 (by simpa using a) (λx h1 h2=>b x h1 (by simp; omega))) hqq;rw [hnn] at k1 k4;refine ⟨.row (bs.length+2) 0 (l.filter q).length none z,bs',min lo0 lo',?_,by simp at k2; omega,λx hx=>by rw [k3 x (by omega) (by simp; omega)]; exact hold x hx,.inr ⟨rfl,bs.length+2,none,rest,by omega,rfl,k4,.inr ⟨rfl,by rw [am,bu hz,k6,hnn,← Nat.add_mul,Nat.add_sub_cancel' (List.length_filter_le _ _)]; exact hLz⟩⟩⟩;refine Eq.trans ?_ (hout (lo':=lo') (hun (by omega)))
     congr 1
     simp [aa,keepQ,Sl.d,hcl,k1,aY]
   . have hall:∀ e∈l,(!q e)=false:=by
      intro e he;cases hh:(!q e) with
      | false=>rfl
      | true=>exact absurd ⟨e,he,hh⟩ hqq
     have hK:l.filter q=l:=List.filter_eq_self.2 λe he=>by have:=hall e he; simpa using this
     have h1:=fF (E:=E) (T:=T) (val:=val) cells (es:=l) (z:=z) (idx:=idx) (zero:=zero) tidx vidx tdel vdel (v:=.row (bs.length+2) 0 l.length none z) (f:=clos) (caps:=[.ptr bs.length 0]) (q:=λe=>!q e) (h:=⟨bs++[.cells [.fn f caps],.cells [],.cells (flat (l.map cells))],bs.length⟩)
      ⟨by simp; intro a _; exact hz a,.inr ⟨bs.length+2,0,none,_,by simp,hbF,by
       rw [eT,if_pos (by rw [bu hz]; simp),List.drop_zero,bx,← bu hz,List.take_length]; rfl⟩⟩ hlen (λe he lo2=>hcall e he _ lo2 (by simp) λ_ _ _=>rfl) hall
     rw [hK];refine ⟨.row (bs.length+2) 0 l.length none z,bs++[.cells [.fn f caps],.cells [],.cells (flat (l.map cells))],min lo0 bs.length,?_,by simp,hold,.inr ⟨rfl,bs.length+2,none,[],by omega,rfl,by rw [hbF]; simp,.inr ⟨rfl,by rw [List.append_nil,bu hz]; exact hLz⟩⟩⟩;refine Eq.trans ?_ (hout (lo':=bs.length) (hun (by omega)))
     congr 1
     simp [aa,keepQ,Sl.d,hcl,h1,aY]
theorem I6 {α:Type}{cells:α->List D}{z b:Nat}(hz:∀ x,(cells x).length=z)(hz0:0<z)(hb:b<=4096){n:Nat}{nl:Bool}{K:List α}{bs:List Blk}{v:V}(hk:KeptP cells z n nl K bs v)(fr:Sl α)(hfr:fit big fr)(hlen:K.length+fr.l.length<=big)(hn:n<=bs.length) :
 ∃ (v':V) (bs':List Blk) (f:Nat->Nat),(∀ lo,dZ ⟨bs,lo⟩ z b v (.d (fr.d cells))=some (v',⟨bs',f lo⟩))/\(∀ y,y<n->bs'[y]?=bs[y]?) ∧
  ((nl=true/\K++fr.l=[]/\v'=.d (.slice true []))\/((nl&&fr.l.isEmpty)=false/\∃ B cap rest,n<=B/\v'=.row B 0 (K++fr.l).length cap z/\ai bs' B=some (flat ((K++fr.l).map cells)++rest))):=by
 have hall:((fr.l.map cells).all λe=>e.length==z)=true:=ck.2 λx hx=>by
  obtain ⟨y,_,rfl⟩:=cb.1 hx;simp [hz y]
 have hrc:∀ lo,aF ⟨bs,lo⟩ (.d (fr.d cells)) z=some (fr.l.length,flat (fr.l.map cells)):=λlo=>by
  simp only [Sl.d,aF,hall,if_true,flat,bx]
 have hroom:∀ n,n<=big->roomy n b=true:=λn hn=>by simp only [roomy,aq,br]; exact ⟨hn,hb⟩
 have hzz:¬ z=0:=by omega
 have hfl:=bu hz fr.l;obtain h0 | h0:=Nat.eq_zero_or_pos fr.l.length
 . have hf0:fr.l=[]:=List.eq_nil_of_length_eq_zero h0;obtain ⟨h1,h2,rfl⟩ | ⟨h1,B,cap,rest,h2,rfl,h3,h4⟩:=hk
   . refine ⟨.d (.slice true []),bs,λlo=>lo,λlo=>by simp only [dZ,hrc,h0,aD,if_true],λ_ _=>rfl,.inl ⟨h1,by rw [h2,hf0]; rfl,rfl⟩⟩
   . refine ⟨.row B 0 K.length cap z,bs,λlo=>lo,λlo=>by simp only [dZ,hrc,h0,aD,ne_eq,not_true_eq_false,false_or,if_neg hzz,if_true],λ_ _=>rfl,.inr ⟨by simp [h1],B,cap,rest,h2,by rw [hf0,List.append_nil],by rw [hf0,List.append_nil]; exact h3⟩⟩
 . have hm0:¬ fr.l.length=0:=by omega
   have hne:fr.l≠[]:=List.length_pos_iff.1 h0;have hie:fr.l.isEmpty=false:=by cases hc:fr.l with | nil=>exact absurd hc hne | cons _ _=>rfl
   have hcat:flat ((K++fr.l).map cells)=flat (K.map cells)++flat (fr.l.map cells):=by rw [List.map_append,kH]
   have hcat2:flat (K.map cells++fr.l.map cells)=flat (K.map cells)++flat (fr.l.map cells):=kH _ _;have hKl:=bu hz K;obtain ⟨h1,h2,rfl⟩ | ⟨h1,B,cap,rest,h2,rfl,h3,h4⟩:=hk
   . subst h2;refine ⟨.row bs.length 0 fr.l.length none z,bs++[.cells (flat (fr.l.map cells))],λlo=>lo,λlo=>by simp only [dZ,hrc,aD,if_neg hm0,if_neg hzz,hroom fr.l.length (by simpa using hlen),if_true]; rfl,λy hy=>by rw [al (by omega)],.inr ⟨by simp [hie],bs.length,none,[],hn,rfl,by simp [eG]⟩⟩
   . have hBl:=aI h3;have hs:sub (flat (K.map cells)++rest) 0 (K.length * z)=some (flat (K.map cells)):=by
      rw [eT,if_pos (by rw [am,hKl]; omega),List.drop_zero,← hKl,List.take_left]
     obtain ⟨rfl,rfl⟩ | ⟨rfl,h5⟩:=h4
     . simp only [List.map_nil,q8,List.nil_append,cj,Nat.zero_mul] at h3 hs hlen;refine ⟨.row bs.length 0 (0+fr.l.length) none z,bs++[.cells ([]++flat (fr.l.map cells))],λlo=>lo,λlo=>by simp only [dZ,hrc,aD,ne_eq,not_true_eq_false,false_or,if_neg hm0,if_neg hzz,get_eq,h3,cj,Nat.zero_mul,hs,hroom (0+fr.l.length) (by omega),Bool.not_true,bm,if_false,if_neg (show ¬ (0+fr.l.length<=0) by omega)]; rfl,λy hy=>by rw [al (by omega)],.inr ⟨by simp [hie],bs.length,none,[],hn,by simp,by simp [eG]⟩⟩
     . by_cases hfit:0+(K.length+fr.l.length) * z<=(flat (K.map cells)++rest).length
       . have hno:¬ (True/\(flat (K.map cells)).length=(flat (K.map cells)++rest).length/\0<(flat (K.map cells)++rest).length):=by
          have:0<fr.l.length * z:=Nat.mul_pos h0 hz0;rw [Nat.add_mul] at hfit;rw [hKl];omega
         have hput:put (flat (K.map cells)++rest) (0+K.length * z) (flat (fr.l.map cells))=some (flat (K.map cells)++flat (fr.l.map cells)++rest.drop (fr.l.length * z)):=by
          rw [Nat.add_mul] at hfit;unfold put;rw [if_pos (by rw [hfl]; omega),Nat.zero_add,← hKl,List.take_left,List.drop_append,ba (by omega),Nat.add_sub_cancel_left,hfl];simp
         refine ⟨.row B 0 (K.length+fr.l.length) none z,bs.set B (.cells (flat (K.map cells)++flat (fr.l.map cells)++rest.drop (fr.l.length * z))),λlo=>min lo B,λlo=>by simp only [dZ,hrc,aD,ne_eq,not_true_eq_false,false_or,if_neg hm0,if_neg hzz,get_eq,h3,hs,hroom (K.length+fr.l.length) (by omega),Bool.not_true,bm,if_false,if_neg hno,if_pos hfit,hput]; rfl,λy hy=>by rw [ac (by omega)],.inr ⟨by simp [hie],B,none,rest.drop (fr.l.length * z),h2,by simp,by simp [ai,hBl,hcat2]⟩⟩
       . refine ⟨.row bs.length 0 (K.length+fr.l.length) none z,bs.set B (.cells [])++[.cells (flat (K.map cells)++flat (fr.l.map cells))],λlo=>min lo B,λlo=>?_,λy hy=>by rw [al (by simp; omega),ac (by omega)],.inr ⟨by simp [hie],bs.length,none,[],hn,by simp,?_⟩⟩
         . by_cases hfull:(flat (K.map cells)).length=(flat (K.map cells)++rest).length
           . simp only [dZ,hrc,aD,ne_eq,not_true_eq_false,false_or,if_neg hm0,if_neg hzz,get_eq,h3,hs,hroom (K.length+fr.l.length) (by omega),Bool.not_true,bm,if_false,if_pos (show True/\(flat (K.map cells)).length=(flat (K.map cells)++rest).length/\0<(flat (K.map cells)++rest).length from ⟨trivial,hfull,h5⟩),Hp.size,Hp.alloc,Hp.set]
           . simp only [dZ,hrc,aD,ne_eq,not_true_eq_false,false_or,if_neg hm0,if_neg hzz,get_eq,h3,hs,hroom (K.length+fr.l.length) (by omega),Bool.not_true,bm,if_false,if_neg (show ¬ (True/\(flat (K.map cells)).length=(flat (K.map cells)++rest).length/\0<(flat (K.map cells)++rest).length) from λhh=>hfull hh.2.1),if_neg hfit,if_pos (show True/\0<(flat (K.map cells)++rest).length from ⟨trivial,h5⟩),Hp.size,Hp.alloc,Hp.set]
         . have:=eG (bs:=bs.set B (.cells [])) (ys:=[.cells (flat (K.map cells)++flat (fr.l.map cells))]);rw [List.length_set] at this;rw [this,hcat,List.append_nil]; rfl
def je {α:Type}(key:α->Int)(fresh:List α)(gone:List Int)(e:α):Bool:=!fM gone (key e)&&!fresh.any λy=>key e==key y
def gK {α:Type}(key:α->Int)(l fresh:List α)(gone:List Int):List α:=((l.filter (je key fresh gone))++fresh).mergeSort λa b=>decide (key a<=key b)
theorem Qc {α:Type}{cells:α->List D}{z c idf:FuncId}{key:α->Int}(ht:T c=some (vpeQ z))(hv:val c=false){x y:α}(hx:(cells x).length=z)(hy:(cells y).length=z)(hid:∀ e,e=x\/e=y->∀ h,Sm E T val idf [ag (cells e)] h=some (.d (u64 (key e)),h)){p r:Nat}{h:Hp}(hp:ai h.bs p=some [.fn idf []])(hr:ai h.bs r=some ((cells x).map .d)) :
 Sm E T val c [ag (cells y),.ptr p 0,.ptr r 0] h=some (bl (key x==key y),h):=by
 rw [ax ht hv];have hsx:=rZ hx;have hsy:=rZ hy;have h1:=hid x (.inl rfl);have h2:=hid y (.inr rfl);simp [vpeQ,aa,ay,ae,av,Tr.mute,az hp,az hr,h1,h2,hsx,hsy,V.under]
theorem XC {α:Type}{cells:α->List D}{z c c11 con sm any idx idf:FuncId}{key:α->Int}(ht:T c=some (vpcQ z con c11 sm))(hv:val c=false)(ht1:T c11=some (vpeQ z))(hv1:val c11=false)(ts:T sm=some (someQ any))(vs:val sm=false)(ta:T any=some (anyQ idx))(va:val any=false)(ti:T idx=some (idxQ z))(vi:val idx=false)
 (hz:∀ x,(cells x).length=z) {fresh:Sl α} (hs:short fresh) {gone:Sl Int} (hcon:∀ n h,Sm E T val con [.d (gone.d d9),.d (u64 n)] h=some (bl (fM gone.l n),h)) {x:α} (hid:∀ e,e=x\/e∈fresh.l->∀ h,Sm E T val idf [ag (cells e)] h=some (.d (u64 (key e)),h))
 {p r f:Nat} {h:Hp} (hr:ai h.bs r=some [.d (gone.d d9)]) (hp:ai h.bs p=some [.fn idf []]) (hf:ai h.bs f=some [.d (fresh.d cells)]) :
 Sm E T val c [ag (cells x),.ptr r 0,.ptr p 0,.ptr f 0] h=some (bl (je key fresh.l gone.l x),h):=by
 have hsx:=rZ (hz x);have h1:=hid x (.inl rfl);have hcl:∀ y∈fresh.l,∀ lo,Sm E T val c11 (.agg ((cells y).map .d)::[.ptr p 0,.ptr h.bs.length 0]) ⟨h.bs++[.cells ((cells x).map .d)],lo⟩=some (.d (.bool (key x==key y)),⟨h.bs++[.cells ((cells x).map .d)],lo⟩):=λy hy lo =>
  Qc ht1 hv1 (hz x) (hz y) (λe he=>hid e (by obtain rfl | rfl:=he; exact .inl rfl; exact .inr hy)) (az hp) (by rw [eG]; rfl)
 have hsm:∀ lo,Sm E T val sm [.d (fresh.d cells),.fn c11 [.ptr p 0,.ptr h.bs.length 0]] ⟨h.bs++[.cells ((cells x).map .d)],lo⟩=some (bl (fresh.l.any λy=>key x==key y),⟨h.bs++[.cells ((cells x).map .d)],lo⟩):=λlo =>
  fG ts vs rfl rfl (gU cells ti vi ta va (h:=⟨h.bs++[.cells ((cells x).map .d)],(h.bs++[Blk.cells ((cells x).map .d)]).length⟩) (RowIs.of hz _) hs.lt λe he lo=>hcl e he lo)
 rw [ax ht hv];unfold je;cases hg:fM gone.l (key x)<;>simp [vpcQ,aa,ay,ae,bM,av,Tr.mute,az hp,az hr,az hf,h1,hsx,hcon,hg,hsm,V.under]
theorem yL {α:Type}{cells:α->List D}{z b c1 c11 con sm any keep cl clos del idx g srt idf id:FuncId}{zero:List V}{key:α->Int}(tcl:T cl=some (cloneQ z b zero))(vcl:val cl=false)(tdel:T del=some (delQ z idx zero))(vdel:val del=false)(ti:T idx=some (idxQ z))(vi:val idx=false)
 (tn:T clos=some (notQ z)) (vn:val clos=false) (tk:T keep=some (keepQ cl clos del)) (vk:val keep=false) (t1:T c1=some (vpcQ z con c11 sm)) (v1:val c1=false) (t11:T c11=some (vpeQ z)) (v11:val c11=false) (ts:T sm=some (someQ any)) (vs:val sm=false) (ta:T any=some (anyQ idx)) (va:val any=false)
 (tid:T id=some (vputQ z b c1 keep g srt)) (vid:val id=true) {p:Nat} (hS:∀ {h:Hp} {B n:Nat} {cap:Option Nat},0<n->Sm E T val srt [.row B 0 n cap z,.fn g [.ptr 2 0]] h=fU ⟨z,p,g,idf⟩ [.row B 0 n cap z,.fn g [.ptr 2 0]] h)
 (hS0:∀ v,v=.d (.slice true [])\/(∃ B cap,v=.row B 0 0 cap z)->∀ h,Sm E T val srt [v,.fn g [.ptr 2 0]] h=some (.tup [],h))
 (hz:∀ x,(cells x).length=z) (hz0:0<z) (hzero:zero.length=z) (hb:b<=4096) (hkey:∀ x,(cells x)[p]?=some (.int .u64 (key x))) {l fresh:Sl α} (hl:short l) (hf:short fresh) (hlf:l.l.length+fresh.l.length<=big) {gone:Sl Int}
 (hcon:∀ n h,Sm E T val con [.d (gone.d d9),.d (u64 n)] h=some (bl (fM gone.l n),h)) (hid:∀ e,e∈l.l\/e∈fresh.l->∀ h,Sm E T val idf [ag (cells e)] h=some (.d (u64 (key e)),h)) (hnd:(((l.l.filter (je key fresh.l gone.l))++fresh.l).map key).Nodup) :
 ∃ nl,(nl=true->gK key l.l fresh.l gone.l=[])/\∀ h,Sm E T val id [.d (l.d cells),.d (fresh.d cells),.d (gone.d d9),.fn idf []] h=some (.d (.slice nl ((gK key l.l fresh.l gone.l).map cells)),h):=by
 have hfr:∀ h,frz h (.fn idf [])=some (.fn idf []):=λ_=>rfl;have hpf:dn (.fn idf [])=true:=rfl;obtain ⟨r,bs1,lo1,k1,k2,k3,k4⟩:=Eg (E:=E) (T:=T) (val:=val) tcl vcl tdel vdel ti vi tn vn tk vk hz hz0 hzero hb hl (f:=c1) (caps:=[.ptr 1 0,.ptr 2 0,.ptr 0 0]) (q:=je key fresh.l gone.l) (h:=⟨[.cells [.d (fresh.d cells)],.cells [.d (gone.d d9)],.cells [.fn idf []]],0⟩) λe he bs lo hle ho=>by
  simp only [ch,cj] at hle ho;refine XC t1 v1 t11 v11 ts vs ta va ti vi hz hf hcon (λx hx=>hid x (by obtain rfl | hx:=hx; exact .inl he; exact .inr hx)) ?_ ?_ ?_
  . simp only [ai]; rw [ho 1 (by decide)]; rfl
  . simp only [ai]; rw [ho 2 (by decide)]; rfl
  . simp only [ai]; rw [ho 0 (by decide)]; rfl
 simp only [ch,cj] at k2 k3 k4;have hkl:=List.length_filter_le (je key fresh.l gone.l) l.l;obtain ⟨v2,bs2,f,a1,a2,a3⟩:=I6 hz hz0 hb k4 fresh hf (by omega) k2;have hb10:ai bs1 0=some [.d (fresh.d cells)]:=by simp only [ai]; rw [k3 0 (by decide)]; rfl
 have hb2:ai bs2 2=some [.fn idf []]:=by simp only [ai]; rw [a2 2 (by decide),k3 2 (by decide)]; rfl
 have hnur:=k4.nu;have hPV:gK key l.l fresh.l gone.l=((l.l.filter (je key fresh.l gone.l))++fresh.l).mergeSort λa b=>decide (key a<=key b):=rfl;generalize gK key l.l fresh.l gone.l=PV at *;generalize l.l.filter (je key fresh.l gone.l)=K at *;obtain ⟨g1,g2,rfl⟩ | ⟨g1,B,cap,rest,g2,rfl,g3⟩:=a3
 . have hP0:PV=[]:=by rw [hPV,g2,List.mergeSort_nil]
   have hsrt:=λh=>hS0 (.d (.slice true [])) (.inl rfl) h;refine ⟨true,λ_=>hP0,λh=>?_⟩;rw [aN tid vid];simp [vputQ,aa,hfr,k1,hb10,hnur.1,a1,hsrt,hP0,hpf]
 . obtain h0 | h0:=Nat.eq_zero_or_pos (K++fresh.l).length
   . have hKF:K++fresh.l=[]:=List.eq_nil_of_length_eq_zero h0;have hP0:PV=[]:=by rw [hPV,hKF,List.mergeSort_nil]
     have hsrt:=λh=>hS0 (.row B 0 0 cap z) (.inr ⟨B,cap,rfl⟩) h;rw [h0] at a1;rw [hKF] at g3;have hdv:=λlo2=>bz (h:=⟨bs2,lo2⟩) (k:=7) (b:=B) (n:=0) (cap:=cap) (z:=z) (es:=[]) (rest:=rest) (by simp) rfl (by simpa using g3);refine ⟨false,(λhh=>by cases hh),λh=>?_⟩;rw [aN tid vid];simp [vputQ,aa,hfr,k1,hb10,hnur.1,a1,hsrt,hP0,hpf,hdv]
   . have hne:K++fresh.l≠[]:=List.length_pos_iff.1 h0;have hst:=λlo2=>yu (g:=g) (idf:=idf) (p:=p) hz hkey (L:=K++fresh.l) hnd hne (by rw [am]; simp only [big] at hlf; omega) (h:=⟨bs2,lo2⟩) (b:=B) (c:=2) (cap:=cap) (rest:=rest) g3 hb2 (by omega);rw [← hPV] at hst;have hsm:∀ lo2,Sm E T val srt [.row B 0 (K++fresh.l).length cap z,.fn g [.ptr 2 0]] ⟨bs2,lo2⟩=some (.tup [],⟨bs2.set B (.cells (flat (PV.map cells)++rest)),min lo2 B⟩):=λlo2=>by
      rw [hS h0];exact hst lo2
     have hbl:=aI g3;have hpl:PV.length=(K++fresh.l).length:=by rw [hPV,List.length_mergeSort]
     have hwp:∀ e∈PV.map cells,e.length=z:=by simp; intro a _; exact hz a
     have hdv:=λlo2=>bz (h:=⟨bs2.set B (.cells (flat (PV.map cells)++rest)),lo2⟩) (k:=7) (b:=B) (n:=(K++fresh.l).length) (cap:=cap) (z:=z) (es:=PV.map cells) (rest:=rest) hwp (by simp [hpl]) (by simp [ai,hbl]);generalize (K++fresh.l).length=N at *;refine ⟨false,(λhh=>by cases hh),λh=>?_⟩;rw [aN tid vid];simp [vputQ,aa,hfr,k1,hb10,hnur.1,a1,hsm,hdv,hpf]
theorem Re {α:Type}{cells:α->List D}{z c con idf:FuncId}{key:α->Int}(ht:T c=some (apacQ z con))(hv:val c=false){x:α}(hx:(cells x).length=z){gone:Sl Int}(hcon:∀ n h,Sm E T val con [.d (gone.d d9),.d (u64 n)] h=some (bl (fM gone.l n),h))(hid:∀ h,Sm E T val idf [ag (cells x)] h=some (.d (u64 (key x)),h)){p r:Nat}{h:Hp}(hr:ai h.bs r=some [.d (gone.d d9)])(hp:ai h.bs p=some [.fn idf []]) :
 Sm E T val c [ag (cells x),.ptr r 0,.ptr p 0] h=some (bl (fM gone.l (key x)),h):=by
 have hsx:=rZ hx;rw [ax ht hv];simp [apacQ,aa,ay,ae,av,Tr.mute,az hp,az hr,hid,hsx,hcon,V.under]
def jM {α:Type}(key:α->Int)(gone:List Int)(most:Int)(l:List α):Bool:=(aU gone&&decide ((gone.length:Int)<=most))&&!l.any λx=>fM gone (key x)
theorem yI {α:Type}{cells:α->List D}{z c con clo ris slf sm any idx idf:FuncId}{key:α->Int}(ht:T c=some (aparQ ris slf clo sm))(hv:val c=true)(tc:T clo=some (apacQ z con))(vc:val clo=false)(ts:T sm=some (someQ any))(vs:val sm=false)(ta:T any=some (anyQ idx))(va:val any=false)(ti:T idx=some (idxQ z))(vi:val idx=false)
 (hz:∀ x,(cells x).length=z) {gone:Sl Int} {most:Int} (hris:∀ h,Sm E T val ris [.d (gone.d d9),.d (i64 most),.fn slf []] h=some (bl (aU gone.l&&decide ((gone.l.length:Int)<=most)),h)) (hcon:∀ n h,Sm E T val con [.d (gone.d d9),.d (u64 n)] h=some (bl (fM gone.l n),h))
 {l:Sl α} (hl:short l) (hid:∀ e∈l.l,∀ h,Sm E T val idf [ag (cells e)] h=some (.d (u64 (key e)),h)) (h:Hp) :
 Sm E T val c [.d (gone.d d9),.d (i64 most),.d (l.d cells),.fn idf []] h=some (bl (jM key gone.l most l.l),h):=by
 have hfr:frz h (.fn idf [])=some (.fn idf []):=rfl;have hpf:dn (.fn idf [])=true:=rfl;have hsm:∀ lo,Sm E T val sm [.d (l.d cells),.fn clo [.ptr 0 0,.ptr 1 0]] ⟨[.cells [.d (gone.d d9)],.cells [.fn idf []]],lo⟩=some (bl (l.l.any λx=>fM gone.l (key x)),⟨[.cells [.d (gone.d d9)],.cells [.fn idf []]],lo⟩):=λlo =>
  fG ts vs rfl rfl (gU cells ti vi ta va (h:=⟨[.cells [.d (gone.d d9)],.cells [.fn idf []]],2⟩) (RowIs.of hz _) hl.lt λe he lo=>Re tc vc (hz e) hcon (hid e he) (by simp) (by simp))
 rw [aN ht hv];unfold jM;cases hr:(aU gone.l&&decide ((gone.l.length:Int)<=most))<;>simp [aparQ,aa,hfr,hris,hr,hsm,au,hpf]
theorem H5 {α:Type}{cells:α->List D}{z:Nat}(hz:∀ x,(cells x).length=z){s:Sl α}(hs:s.l.length<2 ^ 62){most:Int}{f:FuncId}{g:α->Int}(hf:∀ e∈s.l,∀ h,Sm E T val f [ag (cells e)] h=some (.d (u64 (g e)),h)):∀ (m i:Nat),i+m=s.l.length->1<=i →
 Cd E T val (.loop [0,1,2,9,10] (wU z)) [(0,.d (s.d cells)),(1,.d (i64 most)),(2,.fn f []),(9,.d (i64 s.l.length)),(10,.d (i64 i))] ⟨[],0⟩ =
  if aU ((s.l.map g).drop (i-1)) then some (.exit 0,[(0,.d (s.d cells)),(1,.d (i64 most))],⟨[],0⟩) else some (.ret,[(6,bl false)],⟨[],0⟩):=by
 intro m;have key:=ak (E:=E) (T:=T) (val:=val) [0,1,2,9,10] (wU z);generalize Cd E T val (.loop [0,1,2,9,10] (wU z))=W at key ⊢
 induction m with
 | zero =>
  intro i hi h1;rw [key,kQ (by simp; omega)];simp [wU,show ¬ ((i:Int)<s.l.length) from by omega]
 | succ m ih =>
  intro i hi h1;have hlt:i<s.l.length:=by omega
  have hd:=jI (l:=s.l.map g) (i:=i-1) (by simp; omega);have hs1:i-1+1=i:=by omega
  simp only [hs1,List.getElem_map] at hd;have hp1:=λh=>mV (cells:=cells) hz hlt (kd:=.i64) (h:=h);have hp0:=λh=>mV (cells:=cells) hz (show i-1<s.l.length by omega) (kd:=.i64) (h:=h);have c1:=hf _ (bh hlt);have c0:=hf _ (bh (show i-1<s.l.length by omega));have hw:=aA hlt hs;have hwm:IntKind.wrap .i64 ((i:Int)-1)=((i-1:Nat):Int):=by rw [wrap64]<;>omega
  have hpos:0<i:=h1;have hih:=ih (i+1) (by omega) (by omega);simp only [show i+1-1=i by omega] at hih;rw [key,hd];generalize s.l[i]=y at *;generalize s.l[i-1]=x at *;have hsx:=bL (hz x);have hsy:=bL (hz y);by_cases hg:g x<g y
  . simp +decide [wU,hp1,hp0,hsx,hsy,hwm,hw,hpos,c0,c1,hlt,hg,ay,ae,show ¬ (g x>=g y) from by omega];simpa using hih
  . simp +decide [wU,hp1,hp0,hsx,hsy,hwm,hpos,c0,c1,hlt,hg,ay,ae,show g x>=g y from by omega]
theorem yK {α:Type}{cells:α->List D}{z:Nat}{id:FuncId}(ht:T id=some (rsgQ z))(hv:val id=true)(hz:∀ x,(cells x).length=z){s:Sl α}(hs:s.l.length<2 ^ 62){most:Int}{f:FuncId}{g:α->Int}(hf:∀ e∈s.l,∀ h,Sm E T val f [ag (cells e)] h=some (.d (u64 (g e)),h))(h:Hp) :
 Sm E T val id [.d (s.d cells),.d (i64 most),.fn f []] h=some (bl (gT g s.l most),h):=by
 rw [aN ht hv];unfold gT;have hfr:frz h (.fn f [])=some (.fn f []):=rfl;have key:=ak (E:=E) (T:=T) (val:=val) [0,1,2,9,10] (wU z);have hl:=H5 (E:=E) (T:=T) (val:=val) hz hs (most:=most) hf;simp [aa,rsgQ,hfr];rw [aj];simp only [ji,kz];simp;generalize Cd E T val (.loop [0,1,2,9,10] (wU z))=W at key hl ⊢;by_cases h0:s.l=[]
 . rw [key];simp [wU,h0,aU,dn]
 . have hpos:0<s.l.length:=List.length_pos_iff.2 h0;have h1:=hl (s.l.length-1) 1 (by omega) (by omega);simp at h1;rw [key];have hw:=aA hpos hs;simp at hw;simp +decide [wU,ay,bM,hpos,hw,h1];cases aU (s.l.map g)<;>simp [dn]
end
end
section
structure Dlt where
 epoch:Int
 covers:Sl Int
 pods:Sl Pod
 services:Sl Svc
 bound:Sl Way
 policies:Sl Pol
 gonePods:Sl Int
 goneServices:Sl Int
 goneBound:Sl Int
 gonePolicies:Sl Int
def Dlt.c (x:Dlt):List D:=[u64 x.epoch,x.covers.d aV,x.pods.d Pod.c,x.services.d Svc.c,x.bound.d Way.c,x.policies.d Pol.c,x.gonePods.d d9,x.goneServices.d d9,x.goneBound.d d9,x.gonePolicies.d d9]
abbrev Dlt.v (x:Dlt):V:=ag x.c
def Dlt.vw (x:Dlt):Vw:=⟨x.epoch,x.covers,x.pods,x.services,x.bound,x.policies⟩
abbrev Dlt.ok (x:Dlt):Prop:=x.vw.ok/\short x.gonePods/\short x.goneServices/\short x.goneBound/\short x.gonePolicies
structure Psh where
 life:Int
 inc:Int
 seq:Int
 upon:Int
 delta:Dlt
def Psh.c (x:Psh):List D:=u64 x.life::u64 x.inc::u64 x.seq::u64 x.upon::x.delta.c
structure Idx where
 node:Int
 inc:Int
 asked:Int
 addrs:Sl Int
 since:Int
 life:Int
 seq:Int
 view:Vw
 high:Int
def Idx.c (x:Idx):List D:=i64 x.node::u64 x.inc::u64 x.asked::x.addrs.d aV::u64 x.since::u64 x.life::u64 x.seq::(x.view.c++[u64 x.high])
abbrev Idx.v (x:Idx):V:=ag x.c
structure Ack where
 life:Int
 inc:Int
 seq:Int
 ok:Int
def Ack.c (x:Ack):List D:=[u64 x.life,u64 x.inc,u64 x.seq,i64 x.ok]
structure Sbs where
 inc:Int
 seq:Int
 addrs:Sl Int
def Sbs.c (x:Sbs):List D:=[u64 x.inc,u64 x.seq,x.addrs.d aV]
@[simp] theorem Ack.len {x:Ack}:x.c.length=4:=(rfl)
@[simp] theorem Ack.all {x:Ack}:sub x.c 0 4=some x.c:=(rfl)
@[simp] theorem Sbs.len {x:Sbs}:x.c.length=3:=(rfl)
@[simp] theorem Sbs.all {x:Sbs}:sub x.c 0 3=some x.c:=(rfl)
@[simp] theorem Dlt.len {x:Dlt}:x.c.length=10:=(rfl)
@[simp] theorem Psh.len {x:Psh}:x.c.length=14:=(rfl)
@[simp] theorem Idx.len {x:Idx}:x.c.length=14:=(rfl)
@[simp] theorem Dlt.s0_10 {x:Dlt}:sub x.c 0 10=some x.c:=(rfl)
@[simp] theorem Dlt.s0_1 {x:Dlt}:sub x.c 0 1=some [u64 x.epoch]:=(rfl)
@[simp] theorem Dlt.s1_1 {x:Dlt}:sub x.c 1 1=some [x.covers.d aV]:=(rfl)
@[simp] theorem Dlt.s2_1 {x:Dlt}:sub x.c 2 1=some [x.pods.d Pod.c]:=(rfl)
@[simp] theorem Dlt.s3_1 {x:Dlt}:sub x.c 3 1=some [x.services.d Svc.c]:=(rfl)
@[simp] theorem Dlt.s4_1 {x:Dlt}:sub x.c 4 1=some [x.bound.d Way.c]:=(rfl)
@[simp] theorem Dlt.s5_1 {x:Dlt}:sub x.c 5 1=some [x.policies.d Pol.c]:=(rfl)
@[simp] theorem Dlt.s6_1 {x:Dlt}:sub x.c 6 1=some [x.gonePods.d d9]:=(rfl)
@[simp] theorem Dlt.s7_1 {x:Dlt}:sub x.c 7 1=some [x.goneServices.d d9]:=(rfl)
@[simp] theorem Dlt.s8_1 {x:Dlt}:sub x.c 8 1=some [x.goneBound.d d9]:=(rfl)
@[simp] theorem Dlt.s9_1 {x:Dlt}:sub x.c 9 1=some [x.gonePolicies.d d9]:=(rfl)
@[simp] theorem Psh.s0_14 {x:Psh}:sub x.c 0 14=some x.c:=(rfl)
@[simp] theorem Psh.s0_1 {x:Psh}:sub x.c 0 1=some [u64 x.life]:=(rfl)
@[simp] theorem Psh.s1_1 {x:Psh}:sub x.c 1 1=some [u64 x.inc]:=(rfl)
@[simp] theorem Psh.s2_1 {x:Psh}:sub x.c 2 1=some [u64 x.seq]:=(rfl)
@[simp] theorem Psh.s3_1 {x:Psh}:sub x.c 3 1=some [u64 x.upon]:=(rfl)
@[simp] theorem Psh.s4_10 {x:Psh}:sub x.c 4 10=some x.delta.c:=(rfl)
@[simp] theorem Psh.s4_1 {x:Psh}:sub x.c 4 1=some [u64 x.delta.epoch]:=(rfl)
@[simp] theorem Idx.s0_14 {x:Idx}:sub x.c 0 14=some x.c:=(rfl)
@[simp] theorem Idx.s0_1 {x:Idx}:sub x.c 0 1=some [i64 x.node]:=(rfl)
@[simp] theorem Idx.s1_1 {x:Idx}:sub x.c 1 1=some [u64 x.inc]:=(rfl)
@[simp] theorem Idx.s2_1 {x:Idx}:sub x.c 2 1=some [u64 x.asked]:=(rfl)
@[simp] theorem Idx.s3_1 {x:Idx}:sub x.c 3 1=some [x.addrs.d aV]:=(rfl)
@[simp] theorem Idx.s4_1 {x:Idx}:sub x.c 4 1=some [u64 x.since]:=(rfl)
@[simp] theorem Idx.s5_1 {x:Idx}:sub x.c 5 1=some [u64 x.life]:=(rfl)
@[simp] theorem Idx.s6_1 {x:Idx}:sub x.c 6 1=some [u64 x.seq]:=(rfl)
@[simp] theorem Idx.s7_6 {x:Idx}:sub x.c 7 6=some x.view.c:=(rfl)
@[simp] theorem Idx.s7_1 {x:Idx}:sub x.c 7 1=some [u64 x.view.epoch]:=(rfl)
@[simp] theorem Idx.s13_1 {x:Idx}:sub x.c 13 1=some [u64 x.high]:=(rfl)
def si:List V:=[(.d (.int .u64 0)),(.d (.str ⟨#[]⟩)),(.d (.int .u32 0)),(.d (.int .i64 0)),(.d (.int .u64 0))]
def sw:List V:=[(.d (.int .u64 0)),(.d (.int .i64 0))]
def df9:List (Nat×QF):=[(115,Ha),(34,NQ),(29,KT),(84,BF),(85,BG),(86,BH),(87,BI)]
def TB:FuncId->Option QF:=gM df9
def og (f:FuncId):Bool:=[115,34,29,84,85,86].any λn=>Nat.beq n f
theorem bq6:TB 115=some (Ha):=by kernel_rfl
theorem br4:og 115=true:=by kernel_rfl
theorem bq7:TB 34=some (NQ):=by kernel_rfl
theorem br5:og 34=true:=by kernel_rfl
theorem bq5:TB 29=some (cloneQ 1 4 [(.d (.int .u32 0))]):=by kernel_rfl
theorem br3:og 29=true:=by kernel_rfl
theorem bq3:TB 84=some (cloneQ 7 72 nU):=by kernel_rfl
theorem br2:og 84=true:=by kernel_rfl
theorem bq8:TB 85=some (cloneQ 5 48 si):=by kernel_rfl
theorem br6:og 85=true:=by kernel_rfl
theorem bq9:TB 86=some (cloneQ 2 16 sw):=by kernel_rfl
theorem br7:og 86=true:=by kernel_rfl
theorem br0:TB 87=some (cloneQ 5 64 rJ):=by kernel_rfl
theorem br8:og 87=false:=by kernel_rfl
theorem bq4:TB 88=none:=by kernel_rfl
def dg2:List (Nat×QF):=[(159,q79),(33,q80),(17,q82),(108,Dm),(61,q81),(62,cm2),(63,cm3),(64,cm4),(65,cm5),(109,cl8),(111,cl9),(113,cm0),(116,cm1),(184,cn2),(189,cn4),(192,cn6),(196,cn8),(186,cn3),(190,cn5),(194,cn7),(198,cn9),(180,cm8),(181,cm9),(182,cn0),(183,cn1),(260,co1),(261,co2),(262,co3),(263,co4),(258,UJ),(259,UK),(185,Oq),(264,UL),(83,q75),(162,tJ),(41,TC),(51,TK),(193,YR),(197,YW),(122,KV),(129,KW),(229,OL),(172,Ow),(167,G6),(200,G7),(120,G9),(213,Hr),(239,zD),(240,Hq),(241,KX),(246,Uk),(242,YS),(243,YT),(244,YU),(245,YV),(110,NR),(112,NS),(114,NT),(117,TY),(46,TG),(49,TJ),(53,TM),(56,TN),(125,G8),(127,Hg),(130,Hl),(132,Hm),(84,BF),(85,BG),(86,BH),(87,BI),(126,Uh),(128,Ui),(131,Uj),(133,YQ),(29,KT),(82,Dl),(160,Dr),(161,Ho),(66,Hd),(136,co0),(137,Um),(221,co5),(222,UN),(223,co6),(224,UO),(225,co7),(226,UQ),(284,co8),(285,co9),(286,cp0)]
def TI:FuncId->Option QF:=gM dg2
def aJ (f:FuncId):Bool:=[159,33,17,108,61,62,63,64,65,109,111,113,116,180,181,182,183,258,259,185,264,83,162,239,240,241,246,242,243,244,245,110,112,114,117,29,82,160,161,66,136,137,221,222,223,224,225,226,284,285,286].any λn=>Nat.beq n f
theorem i80:TI 33=some (q80):=by kernel_rfl
theorem j80:aJ 33=true:=by kernel_rfl
theorem i82:TI 17=some (q82):=by kernel_rfl
theorem j82:aJ 17=true:=by kernel_rfl
theorem i164:TI 108=some (Dm):=by kernel_rfl
theorem cc4:aJ 108=true:=by kernel_rfl
theorem i81:TI 61=some (eql1Q (.sc (.i .u32))):=by kernel_rfl
theorem j81:aJ 61=true:=by kernel_rfl
theorem i173:TI 62=some (eqlQ 7 (.agg [(.i .u64),.s,.s,(.i .i64),(.i .u32),(.i .i64),(.i .u64)])):=by kernel_rfl
theorem cd3:aJ 62=true:=by kernel_rfl
theorem bv6:TI 63=some (eqlQ 5 (.agg [(.i .u64),.s,(.i .u32),(.i .i64),(.i .u64)])):=by kernel_rfl
theorem cd4:aJ 63=true:=by kernel_rfl
theorem i175:TI 64=some (eqlQ 2 (.agg [(.i .u64),(.i .i64)])):=by kernel_rfl
theorem cd5:aJ 64=true:=by kernel_rfl
theorem bv7:TI 65=some (eqfQ 5 [(.d (.int .u64 0)),(.d (.str ⟨#[]⟩)),(.d (.int .u64 0)),(.d (.int .i64 0)),(.d (.slice true []))]):=by kernel_rfl
theorem cd6:aJ 65=true:=by kernel_rfl
theorem bv1:TI 109=some (vputQ 7 72 184 46 188 187):=by kernel_rfl
theorem cc5:aJ 109=true:=by kernel_rfl
theorem i167:TI 111=some (vputQ 5 48 189 49 191 169):=by kernel_rfl
theorem cc7:aJ 111=true:=by kernel_rfl
theorem bv3:TI 113=some (vputQ 2 16 192 53 195 174):=by kernel_rfl
theorem cc9:aJ 113=true:=by kernel_rfl
theorem i171:TI 116=some (vputQ 5 64 196 56 199 177):=by kernel_rfl
theorem cd1:aJ 116=true:=by kernel_rfl
theorem by6:TI 184=some (vpcQ 7 185 186 51):=by kernel_rfl
theorem cg2:aJ 184=false:=by kernel_rfl
theorem by9:TI 189=some (vpcQ 5 185 190 41):=by kernel_rfl
theorem cg6:aJ 189=false:=by kernel_rfl
theorem bz1:TI 192=some (vpcQ 2 185 194 193):=by kernel_rfl
theorem cg8:aJ 192=false:=by kernel_rfl
theorem bz3:TI 196=some (vpcQ 5 185 198 197):=by kernel_rfl
theorem ch0:aJ 196=false:=by kernel_rfl
theorem by8:TI 186=some (vpeQ 7):=by kernel_rfl
theorem cg5:aJ 186=false:=by kernel_rfl
theorem bz0:TI 190=some (vpeQ 5):=by kernel_rfl
theorem cg7:aJ 190=false:=by kernel_rfl
theorem bz2:TI 194=some (vpeQ 2):=by kernel_rfl
theorem cg9:aJ 194=false:=by kernel_rfl
theorem bz4:TI 198=some (vpeQ 5):=by kernel_rfl
theorem ch1:aJ 198=false:=by kernel_rfl
theorem by2:TI 180=some (aparQ 258 259 260 51):=by kernel_rfl
theorem cf8:aJ 180=true:=by kernel_rfl
theorem by3:TI 181=some (aparQ 258 259 261 41):=by kernel_rfl
theorem cf9:aJ 181=true:=by kernel_rfl
theorem by4:TI 182=some (aparQ 258 259 262 193):=by kernel_rfl
theorem cg0:aJ 182=true:=by kernel_rfl
theorem by5:TI 183=some (aparQ 258 259 263 197):=by kernel_rfl
theorem cg1:aJ 183=true:=by kernel_rfl
theorem bz9:TI 260=some (apacQ 7 185):=by kernel_rfl
theorem ch6:aJ 260=false:=by kernel_rfl
theorem ca0:TI 261=some (apacQ 5 185):=by kernel_rfl
theorem ch7:aJ 261=false:=by kernel_rfl
theorem ca1:TI 262=some (apacQ 2 185):=by kernel_rfl
theorem ch8:aJ 262=false:=by kernel_rfl
theorem ca2:TI 263=some (apacQ 5 185):=by kernel_rfl
theorem ch9:aJ 263=false:=by kernel_rfl
theorem bz7:TI 258=some (UJ):=by kernel_rfl
theorem ch4:aJ 258=true:=by kernel_rfl
theorem bz8:TI 259=some (UK):=by kernel_rfl
theorem ch5:aJ 259=true:=by kernel_rfl
theorem by7:TI 185=some (Oq):=by kernel_rfl
theorem cg3:aJ 185=true:=by kernel_rfl
theorem ca3:TI 264=some (UL):=by kernel_rfl
theorem ci0:aJ 264=true:=by kernel_rfl
theorem i75:TI 83=some (q75):=by kernel_rfl
theorem j75:aJ 83=true:=by kernel_rfl
theorem i162:TI 162=some (tJ):=by kernel_rfl
theorem cc3:aJ 162=true:=by kernel_rfl
theorem Sa:TI 41=some (someQ 122):=by kernel_rfl
theorem Su:aJ 41=false:=by kernel_rfl
theorem i143:TI 51=some (someQ 129):=by kernel_rfl
theorem Sv:aJ 51=false:=by kernel_rfl
theorem Sd:TI 193=some (someQ 229):=by kernel_rfl
theorem Sz:aJ 193=false:=by kernel_rfl
theorem Sg:TI 197=some (someQ 172):=by kernel_rfl
theorem SA:aJ 197=false:=by kernel_rfl
theorem Sb:TI 122=some (anyQ 200):=by kernel_rfl
theorem Sw:aJ 122=false:=by kernel_rfl
theorem Sc:TI 129=some (anyQ 167):=by kernel_rfl
theorem Sy:aJ 129=false:=by kernel_rfl
theorem Sk:TI 229=some (anyQ 120):=by kernel_rfl
theorem SE:aJ 229=false:=by kernel_rfl
theorem Si:TI 172=some (anyQ 213):=by kernel_rfl
theorem SB:aJ 172=false:=by kernel_rfl
theorem R8:TI 167=some (idxQ 7):=by kernel_rfl
theorem Sn:aJ 167=false:=by kernel_rfl
theorem R9:TI 200=some (idxQ 5):=by kernel_rfl
theorem Sq:aJ 200=false:=by kernel_rfl
theorem i109:TI 120=some (idxQ 2):=by kernel_rfl
theorem Sr:aJ 120=false:=by kernel_rfl
theorem Sj:TI 213=some (idxQ 5):=by kernel_rfl
theorem SC:aJ 213=false:=by kernel_rfl
theorem bx3:TI 239=some (zD):=by kernel_rfl
theorem cf0:aJ 239=true:=by kernel_rfl
theorem bx4:TI 240=some (Hq):=by kernel_rfl
theorem cf1:aJ 240=true:=by kernel_rfl
theorem bx5:TI 241=some (KX):=by kernel_rfl
theorem cf2:aJ 241=true:=by kernel_rfl
theorem by0:TI 246=some (Uk):=by kernel_rfl
theorem cf7:aJ 246=true:=by kernel_rfl
theorem bx6:TI 242=some (rsgQ 7):=by kernel_rfl
theorem cf3:aJ 242=true:=by kernel_rfl
theorem bx7:TI 243=some (rsgQ 5):=by kernel_rfl
theorem cf4:aJ 243=true:=by kernel_rfl
theorem bx8:TI 244=some (rsgQ 2):=by kernel_rfl
theorem cf5:aJ 244=true:=by kernel_rfl
theorem bx9:TI 245=some (rsgQ 5):=by kernel_rfl
theorem cf6:aJ 245=true:=by kernel_rfl
theorem bv2:TI 110=some (NR):=by kernel_rfl
theorem cc6:aJ 110=true:=by kernel_rfl
theorem i168:TI 112=some (NS):=by kernel_rfl
theorem cc8:aJ 112=true:=by kernel_rfl
theorem bv4:TI 114=some (NT):=by kernel_rfl
theorem cd0:aJ 114=true:=by kernel_rfl
theorem bv5:TI 117=some (TY):=by kernel_rfl
theorem cd2:aJ 117=true:=by kernel_rfl
theorem i138:TI 46=some (keepQ 84 126 125):=by kernel_rfl
theorem cb8:aJ 46=false:=by kernel_rfl
theorem i141:TI 49=some (keepQ 85 128 127):=by kernel_rfl
theorem cb9:aJ 49=false:=by kernel_rfl
theorem i145:TI 53=some (keepQ 86 131 130):=by kernel_rfl
theorem cc0:aJ 53=false:=by kernel_rfl
theorem i148:TI 56=some (keepQ 87 133 132):=by kernel_rfl
theorem cc1:aJ 56=false:=by kernel_rfl
theorem i105:TI 125=some (delQ 7 167 nU):=by kernel_rfl
theorem cb5:aJ 125=false:=by kernel_rfl
theorem bw3:TI 127=some (delQ 5 200 si):=by kernel_rfl
theorem ce2:aJ 127=false:=by kernel_rfl
theorem bw5:TI 130=some (delQ 2 120 sw):=by kernel_rfl
theorem ce4:aJ 130=false:=by kernel_rfl
theorem bw7:TI 132=some (delQ 5 213 rJ):=by kernel_rfl
theorem ce6:aJ 132=false:=by kernel_rfl
theorem bu8:TI 84=some (cloneQ 7 72 nU):=by kernel_rfl
theorem cb6:aJ 84=false:=by kernel_rfl
theorem bv9:TI 85=some (cloneQ 5 48 si):=by kernel_rfl
theorem cd8:aJ 85=false:=by kernel_rfl
theorem bw0:TI 86=some (cloneQ 2 16 sw):=by kernel_rfl
theorem cd9:aJ 86=false:=by kernel_rfl
theorem bw1:TI 87=some (cloneQ 5 64 rJ):=by kernel_rfl
theorem ce0:aJ 87=false:=by kernel_rfl
theorem bw2:TI 126=some (notQ 7):=by kernel_rfl
theorem ce1:aJ 126=false:=by kernel_rfl
theorem bw4:TI 128=some (notQ 5):=by kernel_rfl
theorem ce3:aJ 128=false:=by kernel_rfl
theorem bw6:TI 131=some (notQ 2):=by kernel_rfl
theorem ce5:aJ 131=false:=by kernel_rfl
theorem bw8:TI 133=some (notQ 5):=by kernel_rfl
theorem ce7:aJ 133=false:=by kernel_rfl
theorem bu9:TI 29=some (cloneQ 1 4 [(.d (.int .u32 0))]):=by kernel_rfl
theorem cb7:aJ 29=true:=by kernel_rfl
theorem i154:TI 82=some (Dl):=by kernel_rfl
theorem cc2:aJ 82=true:=by kernel_rfl
theorem bw9:TI 160=some (Dr):=by kernel_rfl
theorem ce8:aJ 160=true:=by kernel_rfl
theorem bx2:TI 161=some (Ho):=by kernel_rfl
theorem ce9:aJ 161=true:=by kernel_rfl
theorem bv8:TI 66=some (Hd):=by kernel_rfl
theorem cd7:aJ 66=true:=by kernel_rfl
theorem bz5:TI 136=some (eqfQ 3 [(.d (.slice true [])),(.d (.slice true [])),(.d (.slice true []))]):=by kernel_rfl
theorem ch2:aJ 136=true:=by kernel_rfl
theorem bz6:TI 137=some (Um):=by kernel_rfl
theorem ch3:aJ 137=true:=by kernel_rfl
theorem ca4:TI 221=some (eqfQ 3 [(.d (.slice true [])),(.d (.slice true [])),(.d (.slice true []))]):=by kernel_rfl
theorem ci1:aJ 221=true:=by kernel_rfl
theorem ca5:TI 222=some (UN):=by kernel_rfl
theorem ci2:aJ 222=true:=by kernel_rfl
theorem ca6:TI 223=some (eqfQ 4 [(.d (.slice true [])),(.d (.slice true [])),(.d (.slice true [])),(.d (.slice true []))]):=by kernel_rfl
theorem ci3:aJ 223=true:=by kernel_rfl
theorem ca7:TI 224=some (UO):=by kernel_rfl
theorem ci4:aJ 224=true:=by kernel_rfl
theorem ca9:TI 225=some (eqfQ 2 [(.d (.str ⟨#[]⟩)),(.d (.slice true []))]):=by kernel_rfl
theorem ci5:aJ 225=true:=by kernel_rfl
theorem cb0:TI 226=some (UQ):=by kernel_rfl
theorem ci6:aJ 226=true:=by kernel_rfl
theorem cb1:TI 284=some (eqlQ 2 (.agg [(.i .i64),.s])):=by kernel_rfl
theorem ci7:aJ 284=true:=by kernel_rfl
theorem cb2:TI 285=some (eqlQ 2 (.agg [(.i .u32),(.i .i64)])):=by kernel_rfl
theorem ci8:aJ 285=true:=by kernel_rfl
theorem cb3:TI 286=some (eql1Q (.sc (.i .i64))):=by kernel_rfl
theorem ci9:aJ 286=true:=by kernel_rfl
theorem Yd:TI 115=none:=by kernel_rfl
theorem bv0:TI 34=none:=by kernel_rfl
theorem i117:TI 37=none:=by kernel_rfl
theorem by1:TI 152=none:=by kernel_rfl
theorem Ye:TI 187=none:=by kernel_rfl
theorem Yf:TI 169=none:=by kernel_rfl
theorem Yg:TI 174=none:=by kernel_rfl
theorem Yh:TI 177=none:=by kernel_rfl
end
section
section
variable {E:Calls'}{T:FuncId->Option QF}{val:FuncId->Bool}
theorem Ku {l:List Pol}(hl:l.length<2 ^ 62)(hf:∀ p∈l,∀ h,Sm E T val 88 [ag p.c] h=some (ag p.own.c,h)){bs0:List Blk}{b:Nat}(hb0:b<bs0.length){cap:Option Nat}:∀ (m i:Nat) (kept:List Pol) (bs:List Blk) (lo:Nat),i+m=l.length->kept.length=i->Thin Pol.c 5 l bs0 b kept bs →
 ∃ bs' lo',Cd E T val (.loop [0,7,8,9] jW) [(0,.row b 0 l.length cap 5),(7,.row b 0 l.length cap 5),(8,.d (i64 l.length)),(9,.d (i64 i))] ⟨bs,lo⟩=some (.exit 0,[(0,.row b 0 l.length cap 5)],⟨bs',lo'⟩) ∧
  Thin Pol.c 5 l bs0 b (kept++(l.drop i).map Pol.own) bs':=by
 intro m;have key:=ak (E:=E) (T:=T) (val:=val) [0,7,8,9] jW;generalize Cd E T val (.loop [0,7,8,9] jW)=W at key ⊢
 induction m with
 | zero =>
  intro i kept bs lo hi hk ht;have h0:l.drop i=[]:=ba (by omega);refine ⟨bs,lo,?_,by simpa [h0] using ht⟩;rw [key];simp [jW,show ¬ ((i:Int)<l.length) from by omega]
 | succ m ih =>
  intro i kept bs lo hi hk ht;have hlt:i<l.length:=by omega
  have hd:l.drop i=l[i]::l.drop (i+1):=aw hlt;have hcz:∀ x:Pol,(Pol.c x).length=5:=λ_=>rfl;have hread:=ht.read hcz (j:=i) (by omega) hlt;have hrow:=ht.row;have hcall:=hf _ (bh hlt);generalize l[i]=x at *;have hix:∀ bs lo,iB none 5 (.row b 0 l.length cap 5) (.d (.int .i64 i)) ⟨bs,lo⟩=some (.ptr b (i * 5),⟨bs,lo⟩):=by
   intro bs lo; simp only [iB]; rw [if_pos ⟨by omega,by omega,trivial⟩]; simp
  have hw:=aA hlt hl;have ht1:=ht.lay (.cells (x.c.map .d));obtain ⟨cs,hcs,ht2⟩:=ht1.keep hcz (e:=x.own) (by omega);rw [hk] at hcs;have hrow1:=ht1.row;rw [hk] at hrow hread hrow1;have hset:∀ lo,Hp.set ⟨bs++[Blk.cells (x.c.map V.d)],lo⟩ b cs=⟨(bs++[Blk.cells (x.c.map V.d)]).set b (Blk.cells cs),min lo b⟩:=λ_=>rfl;obtain ⟨bs',lo',k1,k2⟩:=ih (i+1) (kept++[x.own]) _ (min (min lo bs.length) b) (by omega) (by simp; omega) ht2;refine ⟨bs',lo',?_,by simpa [hd] using k2⟩;generalize hB:(bs++[Blk.cells (x.c.map .d)]).set b (Blk.cells cs)=B at *;rw [key];simp [jW,hix,ldv,hrow,hread,hcall,hw,hrow1,hcs,hset,show ((i:Int)<l.length) from by omega];simpa using k1
end
section
variable {E:Calls'}(h113:∀ p:Pol,p.ok->∀ h,E 88 [ag p.c] h=some (ag p.own.c,h))
include h113
theorem Wi {s:Sl Pol}(hs:short s)(hf:∀ p∈s.l,p.ok)(h:Hp):Sm E TB og 115 [.d (s.d Pol.c)] h=some (.d (Sl.d Pol.c ⟨s.nl,s.l.map Pol.own⟩),h):=by
 have m:∀ p∈s.l,∀ h,Sm E TB og 88 [ag p.c] h=some (ag p.own.c,h):=λp hp h=>by rw [aL bq4]; exact h113 p (hf p hp) h
 obtain ⟨nl,l⟩:=s;simp only at m hf;have hlt:l.length<2 ^ 62:=hs.lt;rw [aN bq6 br4];have key:=ak (E:=E) (T:=TB) (val:=og) [0,7,8,9] jW;have hc:=iO (E:=E) (T:=TB) (val:=og) br0 br8 (z:=5) (by decide) (by decide) (nl:=nl) (es:=l.map Pol.c) (by simp) (by simpa using hs.1) ⟨[],0⟩;cases nl with
 | true =>
  have hl:=hs.2 rfl;simp at hl;subst hl;simp [bH] at hc;simp [aa,Ha,Sl.d,hc];rw [aj];rw [key];simp [jW]
 | false =>
  cases l with
  | nil =>
   simp [bH] at hc;simp [aa,Ha,Sl.d,hc];rw [aj];rw [key];have hdv:=bz (h:=⟨[.cells []],0⟩) (k:=7) (b:=0) (n:=0) (cap:=some 0) (es:=[]) (z:=5) (rest:=[]) (by simp) rfl rfl;simp [jW,hdv]
  | cons p l =>
   simp only [co,bH] at hc;rw [← co] at hc;generalize hes:p::l=es at *;obtain ⟨bs',lo',k1,k2⟩:=Ku (E:=E) (T:=TB) (val:=og) (l:=es) hlt m (bs0:=[.cells [],.cells (flat (es.map Pol.c))]) (b:=1) (by simp) (cap:=none) es.length 0 [] [.cells [],.cells (flat (es.map Pol.c))] 0 (by omega) rfl (DZ (by simp [ai]));have hel:l.length+1=es.length:=by rw [← hes]; rfl
   have hg:=LQ (by simpa using k2) (by simp);have hdv:=bz (h:=⟨bs',lo'⟩) (k:=7) (b:=1) (n:=es.length) (cap:=none) (es:=(es.map Pol.own).map Pol.c) (z:=5) (rest:=[]) (by simp) (by simp) (by simpa using hg);simp [hel] at hc k1;simp at hdv;simp [aa,Ha,Sl.d,hc];rw [aj];simp [k1,hdv]
def Vw.own (v:Vw):Vw:={ v with policies:=⟨v.policies.nl,v.policies.l.map Pol.own⟩ }
theorem az5 (v:Vw)(hv:v.ok)(h:Hp):Sm E TB og 34 [v.v] h=some (v.own.v,h):=by
 have n1:=λh=>dE (E:=E) (T:=TB) (val:=og) (cells:=aV) bq5 br3 (by decide) (by decide) (λ_=>rfl) hv.1 h;have n2:=λh=>dE (E:=E) (T:=TB) (val:=og) (cells:=Pod.c) bq3 br2 (by decide) (by decide) (λ_=>rfl) hv.2.1 h;have n3:=λh=>dE (E:=E) (T:=TB) (val:=og) (cells:=Svc.c) bq8 br6 (by decide) (by decide) (λ_=>rfl) hv.2.2.1 h;have n4:=λh=>dE (E:=E) (T:=TB) (val:=og) (cells:=Way.c) bq9 br7 (by decide) (by decide) (λ_=>rfl) hv.2.2.2.1 h;have n5:=λh=>Wi (E:=E) h113 hv.2.2.2.2.1 hv.2.2.2.2.2 h;have e1:v.cfg.pods=v.pods:=rfl;have e2:v.cfg.services=v.services:=rfl;have e3:v.cfg.bound=v.bound:=rfl;have e4:v.cfg.policies=v.policies:=rfl;rw [e1] at n2;rw [e2] at n3;rw [e3] at n4;rw [e4] at n5;have p1:put (v.c.map V.d) 1 [.d (v.covers.d aV)]=some (v.c.map .d):=rfl;have p2:put (v.c.map V.d) 2 [.d (v.pods.d Pod.c)]=some (v.c.map .d):=rfl;have p3:put (v.c.map V.d) 3 [.d (v.services.d Svc.c)]=some (v.c.map .d):=rfl;have p4:put (v.c.map V.d) 4 [.d (v.bound.d Way.c)]=some (v.c.map .d):=rfl;have p5:put (v.c.map V.d) 5 [.d (Sl.d Pol.c ⟨v.policies.nl,v.policies.l.map Pol.own⟩)]=some (v.own.c.map .d):=rfl;have p6:∀ x:Vw,put [V.d (.int .u64 0),.d (.slice true []),.d (.slice true []),.d (.slice true []),.d (.slice true []),.d (.slice true [])] 0 (x.c.map V.d)=some (x.c.map V.d):=λ_=>rfl;rw [aN bq7 br5];simp +decide [aa,NQ,n1,n2,n3,n4,n5,p1,p2,p3,p4,p5,p6,ay,ae]
end
section
variable {E:Calls'}
theorem bb8 (a:Int)(h:Hp):Sm E TI aJ 259 [.d (u64 a)] h=some (.d (u64 a),h):=by
 rw [aN bz8 ch5];simp [aa,UK]
theorem J3 {s:Sl Int}{i:Nat}(hi:i<s.l.length){kd:IntKind}{h:Hp}:iB none 1 (.d (s.d d9)) (.d (.int kd i)) h=some (.eptr (d9 s.l[i]) 0,h) :=
 mV (cells:=d9) (λ_=>rfl) hi
theorem bd6 {s:Sl Int}(hs:s.l.length<2 ^ 62)(most:Int):∀ (m i:Nat),i+m=s.l.length->1<=i →
 Cd E TI aJ (.loop [0,1,2,9,10] ja) [(0,.d (s.d d9)),(1,.d (i64 most)),(2,.fn 259 []),(9,.d (i64 s.l.length)),(10,.d (i64 i))] ⟨[],0⟩ =
  if aU (s.l.drop (i-1)) then some (.exit 0,[(0,.d (s.d d9)),(1,.d (i64 most))],⟨[],0⟩) else some (.ret,[(6,bl false)],⟨[],0⟩):=by
 intro m;have key:=ak (E:=E) (T:=TI) (val:=aJ) [0,1,2,9,10] ja;generalize Cd E TI aJ (.loop [0,1,2,9,10] ja)=W at key ⊢
 induction m with
 | zero =>
  intro i hi h1;rw [key,kQ (by omega)];simp [ja,show ¬ ((i:Int)<s.l.length) from by omega]
 | succ m ih =>
  intro i hi h1;have hlt:i<s.l.length:=by omega
  have hd:=jI (l:=s.l) (i:=i-1) (by omega);have hs1:i-1+1=i:=by omega
  simp only [hs1] at hd;have hp1:=λh=>J3 hlt (kd:=.i64) (h:=h);have hp0:=λh=>J3 (show i-1<s.l.length by omega) (kd:=.i64) (h:=h);have c1:=bb8 (E:=E);have hw:=aA hlt hs;have hwm:IntKind.wrap .i64 ((i:Int)-1)=((i-1:Nat):Int):=by rw [wrap64]<;>omega
  have hpos:0<i:=h1;have hih:=ih (i+1) (by omega) (by omega);simp only [show i+1-1=i by omega] at hih;rw [key,hd];generalize s.l[i]=y at *;generalize s.l[i-1]=x at *;by_cases hg:x<y
  . simp +decide [ja,hp1,hp0,d9,hwm,hw,hpos,c1,hlt,hg,ay,ae,show ¬ (x>=y) from by omega];simpa using hih
  . simp +decide [ja,hp1,hp0,d9,hwm,hpos,c1,hlt,hg,ay,ae,show x>=y from by omega]
theorem MB {s:Sl Int}(hs:s.l.length<2 ^ 62)(most:Int)(h:Hp):Sm E TI aJ 258 [.d (s.d d9),.d (i64 most),.fn 259 []] h=some (bl (aU s.l&&decide ((s.l.length:Int)<=most)),h):=by
 rw [aN bz7 ch4];have hfr:frz h (.fn 259 [])=some (.fn 259 []):=rfl;have key:=ak (E:=E) (T:=TI) (val:=aJ) [0,1,2,9,10] ja;have hl:=bd6 (E:=E) hs most;simp [aa,UJ,hfr];rw [aj];simp only [ji,kz];simp;generalize Cd E TI aJ (.loop [0,1,2,9,10] ja)=W at key hl ⊢;by_cases h0:s.l=[]
 . rw [key];simp [ja,h0,aU,dn]
 . have hpos:0<s.l.length:=List.length_pos_iff.2 h0;have h1:=hl (s.l.length-1) 1 (by omega) (by omega);simp at h1;rw [key];have hw:=aA hpos hs;simp at hw;simp +decide [ja,ay,bM,hpos,hw,h1];cases aU s.l<;>simp [dn]
theorem bd7 {s:Sl Int}(hs:short s)(n:Int)(h:Hp):∀ (m i:Nat),i+m=s.l.length →
 Cd E TI aJ (.loop [0,1,7,8] nL) [(0,.d (s.d d9)),(1,.d (u64 n)),(7,.d (i64 s.l.length)),(8,.d (i64 i))] h =
  match (s.l.drop i).findIdx? (λx=>x==n) with
  | some k=>some (.ret,[(4,.d (i64 (i+k:Nat)))],h)
  | none=>some (.exit 0,[],h):=by
 have hlt:=hs.lt;intro m;have key:=ak (E:=E) (T:=TI) (val:=aJ) [0,1,7,8] nL;generalize Cd E TI aJ (.loop [0,1,7,8] nL)=W at key ⊢
 induction m with
 | zero =>
  intro i hi;have h0:s.l.drop i=[]:=ba (by omega);rw [key];simp [nL,h0,show ¬ ((i:Int)<s.l.length) from by omega]
 | succ m ih =>
  intro i hi;have h1:i<s.l.length:=by omega
  have hx:=λh=>aK (z:=1) h (ab h1) (cells:=d9) rfl;have hw:=aA h1 hlt;have:=ih (i+1) (by omega);rw [key,aw h1];generalize s.l[i]=x at *;by_cases hq:x=n
  . simp [nL,hx,hq,d9,List.findIdx?_cons,show ((i:Int)<s.l.length) from by omega]
  . have hq':(x==n)=false:=by simpa using hq
    have hq2:¬ n=x:=λh=>hq h.symm;simp [nL,hx,hq',hq2,d9,hw,List.findIdx?_cons,show ((i:Int)<s.l.length) from by omega];rw [show ((i:Int)+1)=((i+1:Nat):Int) from by omega,this];cases hfi:(s.l.drop (i+1)).findIdx? (λp=>p==n) with
    | none=>rfl
    | some k=>simp; omega
theorem WB {s:Sl Int}(hs:short s)(n:Int)(h:Hp):Sm E TI aJ 264 [.d (s.d d9),.d (u64 n)] h=some (.d (i64 (mh s.l λx=>x==n)),h):=by
 rw [aN ca3 ci0];have k1:=λh=>bd7 (E:=E) hs n h s.l.length 0 (by omega);simp at k1;simp [aa,UL];rw [aj];simp [k1,mh];cases s.l.findIdx? (λx=>x==n) with
 | none=>simp
 | some k=>simp
theorem zZ {s:Sl Int}(hs:short s)(n:Int)(h:Hp):Sm E TI aJ 185 [.d (s.d d9),.d (u64 n)] h=some (bl (fM s.l n),h):=by
 rw [aN by7 cg3];obtain ⟨g1,g2⟩ | ⟨k,p,g1,g2,g3⟩:=iI s.l (λx=>x==n)
 . simp [aa,Oq,WB hs,g2,fM,g1]
 . simp [aa,Oq,WB hs,g2,fM,g1]
theorem Ms (p:Pod)(h:Hp):Sm E TI aJ 110 [ag p.c] h=some (.d (u64 p.uid),h):=by rw [aN bv2 cc6]; simp [aa,NR]
theorem Mt (p:Svc)(h:Hp):Sm E TI aJ 112 [ag p.c] h=some (.d (u64 p.id),h):=by rw [aN i168 cc8]; simp [aa,NS]
theorem Mv (p:Way)(h:Hp):Sm E TI aJ 114 [ag p.c] h=some (.d (u64 p.id),h):=by rw [aN bv4 cd0]; simp [aa,NT]
theorem Mw (p:Pol)(h:Hp):Sm E TI aJ 117 [ag p.c] h=some (.d (u64 p.id),h):=by rw [aN bv5 cd2]; simp [aa,TY]
theorem ba9 (p:Pod)(h:Hp):Sm E TI aJ 239 [ag p.c] h=some (bl (kr p),h):=by
 rw [aN bx3 cf0];unfold kr;by_cases a1:(p.ns.size:Int)>64
 case pos=>simp +decide [aa,zD,a1]
 by_cases a2:(p.sa.size:Int)>64
 case pos=>simp +decide [aa,zD,a1,a2]
 by_cases a3:p.host<0
 case pos=>simp +decide [aa,zD,a1,a2,a3]
 by_cases a4:p.host>9
 case pos=>simp +decide [aa,zD,a1,a2,a3,a4]
 by_cases a5:p.port<0
 case pos=>simp +decide [aa,zD,a1,a2,a3,a4,a5]
 simp +decide [aa,zD,a1,a2,a3,a4,a5]
theorem bb4 (p:Svc)(h:Hp):Sm E TI aJ 240 [ag p.c] h=some (bl (ku p),h):=by
 rw [aN bx4 cf1];unfold ku;by_cases a1:(p.ns.size:Int)>64
 case pos=>simp +decide [aa,Hq,a1]
 by_cases a2:p.port<0
 case pos=>simp +decide [aa,Hq,a1,a2]
 simp +decide [aa,Hq,a1,a2]
theorem bb5 (p:Way)(h:Hp):Sm E TI aJ 241 [ag p.c] h=some (bl (jC p),h):=by
 rw [aN bx5 cf2];unfold jC;by_cases a1:p.node<0
 case pos=>simp +decide [aa,KX,a1]
 simp +decide [aa,KX,a1]
theorem FY (s t:Sl Term)(hs:short s)(h:Hp):Sm E TI aJ 284 [.d (s.d Term.c),.d (t.d Term.c)] h=some (bl (all2 Term.eqB s.l t.l),h) :=
 Ae (z:=2) (λ_=>rfl) (by decide) cb1 ci7 hs.lt (λx y h=>JJ) h
theorem bc6 (s t:Sl Cidr)(hs:short s)(h:Hp):Sm E TI aJ 285 [.d (s.d Cidr.c),.d (t.d Cidr.c)] h=some (bl (all2 Cidr.eqB s.l t.l),h) :=
 Ae (z:=2) (λ_=>rfl) (by decide) cb2 ci8 hs.lt (λx y h=>JI) h
theorem bc7 (s t:Sl Int)(hs:short s)(h:Hp):Sm E TI aJ 286 [.d (s.d jU),.d (t.d jU)] h=some (bl (all2 (λx y:Int=>x==y) s.l t.l),h) :=
 IW (cell:=λn=>i64 n) cb3 ci9 hs.lt (λx y h=>Qe) h
theorem bb9 (a b:Source)(ha:a.fits big)(h:Hp):Sm E TI aJ 222 [ag a.c,ag b.c] h=some (bl (a.same b),h):=by
 have n1:=λh=>FY (E:=E) a.names b.names ha.1 h;have n2:=λh=>FY (E:=E) a.spaces b.spaces ha.2.1 h;have n3:=λh=>bc6 (E:=E) a.nets b.nets ha.2.2 h;rw [aN ca5 ci2];unfold Source.same;generalize all2 Term.eqB a.names.l b.names.l=A1 at *;generalize all2 Term.eqB a.spaces.l b.spaces.l=A2 at *;generalize all2 Cidr.eqB a.nets.l b.nets.l=A3 at *;cases A1<;>cases A2<;>simp +decide [aa,UN,n1,n2,n3,au]
theorem bc4 (a b:Target)(ha:a.fits big)(h:Hp):Sm E TI aJ 224 [ag a.c,ag b.c] h=some (bl (a.same b),h):=by
 have n0:=λh=>bc7 (E:=E) a.ports b.ports ha.1 h;have n1:=λh=>FY (E:=E) a.methods b.methods ha.2.1 h;have n2:=λh=>FY (E:=E) a.paths b.paths ha.2.2.1 h;have n3:=λh=>FY (E:=E) a.hosts b.hosts ha.2.2.2 h;rw [aN ca7 ci4];unfold Target.same;generalize all2 (λx y:Int=>x==y) a.ports.l b.ports.l=A0 at *;generalize all2 Term.eqB a.methods.l b.methods.l=A1 at *;generalize all2 Term.eqB a.paths.l b.paths.l=A2 at *;generalize all2 Term.eqB a.hosts.l b.hosts.l=A3 at *;cases A0<;>cases A1<;>cases A2<;>simp +decide [aa,UO,n0,n1,n2,n3,au]
theorem bc5 (a b:When)(ha:a.fits big)(h:Hp):Sm E TI aJ 226 [ag a.c,ag b.c] h=some (bl (a.same b),h):=by
 have n1:=λh=>FY (E:=E) a.terms b.terms ha h;rw [aN cb0 ci6];unfold When.same;generalize all2 Term.eqB a.terms.l b.terms.l=A1 at *;cases e1:eqS a.head b.head<;>simp +decide [aa,UQ,n1,e1,au]
theorem bb7 (a b:Rule)(ha:a.fits big)(h:Hp):Sm E TI aJ 137 [ag a.c,ag b.c] h=some (bl (a.same b),h):=by
 have n1:=λh=>Ad (E:=E) (T:=TI) (val:=aJ) (cells:=Source.c) (z:=3) (λ_=>rfl) (by decide) rfl (f:=222) (p:=Source.same) ca4 ci1 (s:=a.frm) (t:=b.frm) ha.1.1.lt (λx hx y _ h=>bb9 x y (ha.1.2 x hx) h) h;have n2:=λh=>Ad (E:=E) (T:=TI) (val:=aJ) (cells:=Target.c) (z:=4) (λ_=>rfl) (by decide) rfl (f:=224) (p:=Target.same) ca6 ci3 (s:=a.to) (t:=b.to) ha.2.1.1.lt (λx hx y _ h=>bc4 x y (ha.2.1.2 x hx) h) h;have n3:=λh=>Ad (E:=E) (T:=TI) (val:=aJ) (cells:=When.c) (z:=2) (λ_=>rfl) (by decide) rfl (f:=226) (p:=When.same) ca9 ci5 (s:=a.whn) (t:=b.whn) ha.2.2.1.lt (λx hx y _ h=>bc5 x y (ha.2.2.2 x hx) h) h;rw [aN bz6 ch3];unfold Rule.same;generalize all2 Source.same a.frm.l b.frm.l=A1 at *;generalize all2 Target.same a.to.l b.to.l=A2 at *;generalize all2 When.same a.whn.l b.whn.l=A3 at *;cases A1<;>cases A2<;>simp +decide [aa,Um,n1,n2,n3,au]
theorem WA (a b:Pol)(ha:a.fits big)(h:Hp):Sm E TI aJ 66 [ag a.c,ag b.c] h=some (bl (a.same b),h):=by
 have n1:=λh=>Ad (E:=E) (T:=TI) (val:=aJ) (cells:=Rule.c) (z:=3) (λ_=>rfl) (by decide) rfl (f:=137) (p:=Rule.same) bz5 ch2 (s:=a.rules) (t:=b.rules) ha.1.lt (λx hx y _ h=>bb7 x y (ha.2 x hx) h) h;rw [aN bv8 cd7];unfold Pol.same;generalize all2 Rule.same a.rules.l b.rules.l=A1 at *;cases e1:(a.id==b.id)
 case false=>simp +decide [aa,Hd,e1,au]
 cases e2:eqS a.ns b.ns
 case false=>simp +decide [aa,Hd,e1,e2,au]
 cases e3:(a.service==b.service)
 case false=>simp +decide [aa,Hd,e1,e2,e3,au]
 cases e4:(a.deny==b.deny)<;>simp +decide [aa,Hd,n1,e1,e2,e3,e4,au]
theorem ba8 (a:Int)(h:Hp):Sm E TI aJ 161 [.d (u32 a)] h=some (.d (u32 a),h):=by
 rw [aN bx2 ce9];simp [aa,Ho]
theorem WY {s:Sl Int}(hs:s.l.length<2 ^ 62)(most:Int):∀ (m i:Nat),i+m=s.l.length->1<=i →
 Cd E TI aJ (.loop [0,1,2,9,10] di) [(0,.d (s.d aV)),(1,.d (i64 most)),(2,.fn 161 []),(9,.d (i64 s.l.length)),(10,.d (i64 i))] ⟨[],0⟩ =
  if aU (s.l.drop (i-1)) then some (.exit 0,[(0,.d (s.d aV)),(1,.d (i64 most))],⟨[],0⟩) else some (.ret,[(6,bl false)],⟨[],0⟩):=by
 intro m;have key:=ak (E:=E) (T:=TI) (val:=aJ) [0,1,2,9,10] di;generalize Cd E TI aJ (.loop [0,1,2,9,10] di)=W at key ⊢
 induction m with
 | zero =>
  intro i hi h1;rw [key,kQ (by omega)];simp [di,show ¬ ((i:Int)<s.l.length) from by omega]
 | succ m ih =>
  intro i hi h1;have hlt:i<s.l.length:=by omega
  have hd:=jI (l:=s.l) (i:=i-1) (by omega);have hs1:i-1+1=i:=by omega
  simp only [hs1] at hd;have hp1:=λh=>zf hlt (kd:=.i64) (h:=h);have hp0:=λh=>zf (show i-1<s.l.length by omega) (kd:=.i64) (h:=h);have c1:=ba8 (E:=E);have hw:=aA hlt hs;have hwm:IntKind.wrap .i64 ((i:Int)-1)=((i-1:Nat):Int):=by rw [wrap64]<;>omega
  have hpos:0<i:=h1;have hih:=ih (i+1) (by omega) (by omega);simp only [show i+1-1=i by omega] at hih;rw [key,hd];generalize s.l[i]=y at *;generalize s.l[i-1]=x at *;by_cases hg:x<y
  . simp +decide [di,hp1,hp0,aV,hwm,hw,hpos,c1,hlt,hg,ay,ae,show ¬ (x>=y) from by omega];simpa using hih
  . simp +decide [di,hp1,hp0,aV,hwm,hpos,c1,hlt,hg,ay,ae,show x>=y from by omega]
theorem ba7 {s:Sl Int}(hs:s.l.length<2 ^ 62)(most:Int)(h:Hp):Sm E TI aJ 160 [.d (s.d aV),.d (i64 most),.fn 161 []] h=some (bl (aU s.l&&decide ((s.l.length:Int)<=most)),h):=by
 rw [aN bw9 ce8];have hfr:frz h (.fn 161 [])=some (.fn 161 []):=rfl;have key:=ak (E:=E) (T:=TI) (val:=aJ) [0,1,2,9,10] di;have hl:=WY (E:=E) hs most;simp [aa,Dr,hfr];rw [aj];simp only [ji,kz];simp;generalize Cd E TI aJ (.loop [0,1,2,9,10] di)=W at key hl ⊢;by_cases h0:s.l=[]
 . rw [key];simp [di,h0,aU,dn]
 . have hpos:0<s.l.length:=List.length_pos_iff.2 h0;have h1:=hl (s.l.length-1) 1 (by omega) (by omega);simp at h1;rw [key];have hw:=aA hpos hs;simp at hw;simp +decide [di,ay,bM,hpos,hw,h1];cases aU s.l<;>simp [dn]
variable (h117:∀ s:Sl Int,short s->∀ n h,E 37 [.d (s.d aV),.d (u32 n)] h=some (bl (fM s.l n),h))
include h117 in
theorem ba5 {s:Sl Int}(hs:short s)(most:Int)(h:Hp):Sm E TI aJ 82 [.d (s.d aV),.d (i64 most)] h=some (bl (gI s.l most),h):=by
 have m:∀ h,Sm E TI aJ 37 [.d (s.d aV),.d (u32 0)] h=some (bl (fM s.l 0),h):=λh=>by rw [aL i117]; exact h117 _ hs 0 h
 rw [aN i154 cc2];cases e:(aU s.l&&decide ((s.l.length:Int)<=most))<;>simp +decide [aa,Dl,ba7 hs.lt most,m,e,gI,au]
variable (h263:∀ p:Pol,p.wf big->∀ h,E 152 [ag p.c] h=some (bl (bT p),h))
include h263 in
theorem bb6 (p:Pol)(hw:p.wf big)(h:Hp):Sm E TI aJ 246 [ag p.c] h=some (bl (!bT p),h):=by
 have m:∀ h,Sm E TI aJ 152 [ag p.c] h=some (bl (bT p),h):=λh=>by rw [aL by1]; exact h263 p hw h
 rw [aN by0 cf7];simp +decide [aa,Uk,m]
include h117 h263 in
theorem Wz (v:Vw)(hv:v.ok)(hw:∀ p∈v.policies.l,p.wf big)(h:Hp):Sm E TI aJ 162 [.d (u64 v.epoch),.d (v.covers.d aV),.d (v.pods.d Pod.c),.d (v.services.d Svc.c),.d (v.bound.d Way.c),.d (v.policies.d Pol.c)] h=some (bl (bf v),h):=by
 have k1:∀ h,Sm E TI aJ 82 [.d (v.covers.d aV),.d (i64 38)] h=some (bl (gI v.covers.l 38),h):=λh=>ba5 h117 hv.1 38 h;have a1:∀ h,Sm E TI aJ 51 [.d (v.pods.d Pod.c),.fn 239 []] h=some (bl (v.pods.l.any kr),h):=λh =>
  fG i143 Sv rfl rfl (gU Pod.c (z:=7) R8 Sn Sc Sy (RowIs.of (cells:=Pod.c) (λ_=>rfl) _) hv.2.1.lt λe he lo=>ba9 e _)
 have a2:∀ h,Sm E TI aJ 41 [.d (v.services.d Svc.c),.fn 240 []] h=some (bl (v.services.l.any ku),h):=λh =>
  fG Sa Su rfl rfl (gU Svc.c (z:=5) R9 Sq Sb Sw (RowIs.of (cells:=Svc.c) (λ_=>rfl) _) hv.2.2.1.lt λe he lo=>bb4 e _)
 have a3:∀ h,Sm E TI aJ 193 [.d (v.bound.d Way.c),.fn 241 []] h=some (bl (v.bound.l.any jC),h):=λh =>
  fG Sd Sz rfl rfl (gU Way.c (z:=2) i109 Sr Sk SE (RowIs.of (cells:=Way.c) (λ_=>rfl) _) hv.2.2.2.1.lt λe he lo=>bb5 e _)
 have a4:∀ h,Sm E TI aJ 197 [.d (v.policies.d Pol.c),.fn 246 []] h=some (bl (v.policies.l.any λp=>!bT p),h):=λh =>
  fG Sg SA rfl rfl (gU Pol.c (z:=5) Sj SC Si SB (RowIs.of (cells:=Pol.c) (λ_=>rfl) _) hv.2.2.2.2.1.lt λe he lo=>bb6 h263 e (hw e he) _)
 have b1:=λh=>yK (E:=E) bx6 cf3 (s:=v.pods) (cells:=Pod.c) (most:=16) (λ_=>rfl) hv.2.1.lt (λe _ h=>Ms e h) h;have b2:=λh=>yK (E:=E) bx7 cf4 (s:=v.services) (cells:=Svc.c) (most:=6) (λ_=>rfl) hv.2.2.1.lt (λe _ h=>Mt e h) h;have b3:=λh=>yK (E:=E) bx8 cf5 (s:=v.bound) (cells:=Way.c) (most:=4) (λ_=>rfl) hv.2.2.2.1.lt (λe _ h=>Mv e h) h;have b4:=λh=>yK (E:=E) bx9 cf6 (s:=v.policies) (cells:=Pol.c) (most:=12) (λ_=>rfl) hv.2.2.2.2.1.lt (λe _ h=>Mw e h) h;unfold bf nS GH;generalize gI v.covers.l 38=C at *;generalize v.pods.l.any kr=A1 at *;generalize v.services.l.any ku=A2 at *;generalize v.bound.l.any jC=A3 at *;generalize (v.policies.l.any λp=>!bT p)=A4 at *;generalize gT Pod.uid v.pods.l 16=B1 at *;generalize gT Svc.id v.services.l 6=B2 at *;generalize gT Way.id v.bound.l 4=B3 at *;generalize gT Pol.id v.policies.l 12=B4 at *;rw [aN i162 cc3];have hodd:∃ o,(A1||(A2||A3))=o:=⟨_,rfl⟩;obtain ⟨o,ho⟩:=hodd;by_cases m1:v.epoch<=4611686018427387903
 . cases A1<;>cases A2<;>cases A3<;>simp at ho<;>subst ho<;>first
    | (cases C<;>simp +decide [aa,tJ,a1,a2,a3,k1,m1]; done)
    | (cases B1
       case false=>cases C<;>simp +decide [aa,tJ,a1,a2,a3,b1,k1,m1]
       cases B2
       case false=>cases C<;>simp +decide [aa,tJ,a1,a2,a3,b1,b2,k1,m1]
       cases B3
       case false=>cases C<;>simp +decide [aa,tJ,a1,a2,a3,b1,b2,b3,k1,m1]
       cases B4<;>cases C<;>simp +decide [aa,tJ,a1,a2,a3,a4,b1,b2,b3,b4,k1,m1])
 . cases A1<;>cases A2<;>cases A3<;>first
    | (simp +decide [aa,tJ,a1,a2,a3,m1]; done)
    | (cases B1
       case false=>simp +decide [aa,tJ,a1,a2,a3,b1,m1]
       cases B2
       case false=>simp +decide [aa,tJ,a1,a2,a3,b1,b2,m1]
       cases B3
       case false=>simp +decide [aa,tJ,a1,a2,a3,b1,b2,b3,m1]
       simp +decide [aa,tJ,a1,a2,a3,b1,b2,b3,b4,m1])
include h117 h263 in
theorem I75 (v:Vw)(hv:v.ok)(hw:∀ p∈v.policies.l,p.wf big)(h:Hp):Sm E TI aJ 83 [v.v] h=some (bl (bf v),h):=by
 have k2:=λh=>Wz h117 h263 v hv hw h;rw [aN i75 j75];simp +decide [aa,q75,k2]
def sP (d:Dlt):Bool:=(jM Pod.uid d.gonePods.l 16 d.pods.l&&(jM Svc.id d.goneServices.l 6 d.services.l&&(jM Way.id d.goneBound.l 4 d.bound.l&&jM Pol.id d.gonePolicies.l 12 d.policies.l)))&&bf d.vw
include h117 h263 in
theorem ba6 (d:Dlt)(hd:d.ok)(hw:∀ p∈d.policies.l,p.wf big)(h:Hp):Sm E TI aJ 108 [d.v] h=some (bl (sP d),h):=by
 have k2:=λh=>Wz h117 h263 d.vw hd.1 hw h;obtain ⟨hv,g1,g2,g3,g4⟩:=hd;have c1:=λn h=>zZ (E:=E) g1 n h;have c2:=λn h=>zZ (E:=E) g2 n h;have c3:=λn h=>zZ (E:=E) g3 n h;have c4:=λn h=>zZ (E:=E) g4 n h;have n1:=λh=>yI (E:=E) (T:=TI) (val:=aJ) (cells:=Pod.c) (z:=7) (key:=Pod.uid) (idf:=110) by2 cf8 bz9 ch6 i143 Sv Sc Sy R8 Sn (λ_=>rfl) (gone:=d.gonePods) (most:=16) (λh=>MB g1.lt 16 h) c1 (l:=d.pods) hv.2.1 (λe _ h=>Ms e h) h;have n2:=λh=>yI (E:=E) (T:=TI) (val:=aJ) (cells:=Svc.c) (z:=5) (key:=Svc.id) (idf:=112) by3 cf9 ca0 ch7 Sa Su Sb Sw R9 Sq (λ_=>rfl) (gone:=d.goneServices) (most:=6) (λh=>MB g2.lt 6 h) c2 (l:=d.services) hv.2.2.1 (λe _ h=>Mt e h) h;have n3:=λh=>yI (E:=E) (T:=TI) (val:=aJ) (cells:=Way.c) (z:=2) (key:=Way.id) (idf:=114) by4 cg0 ca1 ch8 Sd Sz Sk SE i109 Sr (λ_=>rfl) (gone:=d.goneBound) (most:=4) (λh=>MB g3.lt 4 h) c3 (l:=d.bound) hv.2.2.2.1 (λe _ h=>Mv e h) h;have n4:=λh=>yI (E:=E) (T:=TI) (val:=aJ) (cells:=Pol.c) (z:=5) (key:=Pol.id) (idf:=117) by5 cg1 ca2 ch9 Sg SA Si SB Sj SC (λ_=>rfl) (gone:=d.gonePolicies) (most:=12) (λh=>MB g4.lt 12 h) c4 (l:=d.policies) hv.2.2.2.2.1 (λe _ h=>Mw e h) h;simp only [Dlt.vw] at k2;unfold sP;simp only [Dlt.vw];generalize jM Pod.uid d.gonePods.l 16 d.pods.l=A1 at *;generalize jM Svc.id d.goneServices.l 6 d.services.l=A2 at *
 generalize jM Way.id d.goneBound.l 4 d.bound.l=A3 at *;generalize jM Pol.id d.gonePolicies.l 12 d.policies.l=A4 at *;generalize bf _=M at *;rw [aN i164 cc4];cases A1
 case false=>simp +decide [aa,Dm,n1]
 cases A2
 case false=>simp +decide [aa,Dm,n1,n2]
 cases A3
 case false=>simp +decide [aa,Dm,n1,n2,n3]
 cases A4
 case false=>simp +decide [aa,Dm,n1,n2,n3,n4]
 simp +decide [aa,Dm,n1,n2,n3,n4,k2]
def Vw.same (a b:Vw):Bool:=a.epoch==b.epoch&&(all2 (λx y:Int=>x==y) a.covers.l b.covers.l&&(all2 Pod.eqB a.pods.l b.pods.l&&(all2 Svc.eqB a.services.l b.services.l&&(all2 Way.eqB a.bound.l b.bound.l&&all2 Pol.same a.policies.l b.policies.l))))
theorem I81 (s t:Sl Int)(hs:s.l.length<2 ^ 62)(h:Hp):Sm E TI aJ 61 [.d (s.d aV),.d (t.d aV)] h=some (bl (all2 (λx y:Int=>x==y) s.l t.l),h) :=
 IW (cell:=λn=>u32 n) i81 j81 hs (λx y h=>Qe) h
theorem I82 (a b:Vw)(ha:a.ok)(h:Hp):Sm E TI aJ 17 [a.v,b.v] h=some (bl (a.same b),h):=by
 have n0:=λh=>I81 (E:=E) a.covers b.covers ha.1.lt h;have n1:=λh=>Ae (E:=E) (T:=TI) (val:=aJ) (cells:=Pod.c) (z:=7) (λ_=>rfl) (by decide) (p:=Pod.eqB) i173 cd3 (s:=a.pods) (t:=b.pods) ha.2.1.lt (λx y h=>Ng) h;have n2:=λh=>Ae (E:=E) (T:=TI) (val:=aJ) (cells:=Svc.c) (z:=5) (λ_=>rfl) (by decide) (p:=Svc.eqB) bv6 cd4 (s:=a.services) (t:=b.services) ha.2.2.1.lt (λx y h=>Nh) h;have n3:=λh=>Ae (E:=E) (T:=TI) (val:=aJ) (cells:=Way.c) (z:=2) (λ_=>rfl) (by decide) (p:=Way.eqB) i175 cd5 (s:=a.bound) (t:=b.bound) ha.2.2.2.1.lt (λx y h=>Ni) h;have n4:=λh=>Ad (E:=E) (T:=TI) (val:=aJ) (cells:=Pol.c) (z:=5) (λ_=>rfl) (by decide) rfl (f:=66) (p:=Pol.same) bv7 cd6 (s:=a.policies) (t:=b.policies) ha.2.2.2.2.1.lt (λx hx y _ h=>WA x y (ha.2.2.2.2.2 x hx) h) h;rw [aN i82 j82];unfold Vw.same;generalize all2 (λx y:Int=>x==y) a.covers.l b.covers.l=A0 at *;generalize all2 Pod.eqB a.pods.l b.pods.l=A1 at *;generalize all2 Svc.eqB a.services.l b.services.l=A2 at *;generalize all2 Way.eqB a.bound.l b.bound.l=A3 at *;generalize all2 Pol.same a.policies.l b.policies.l=A4 at *;cases e1:(a.epoch==b.epoch)
 case false=>simp +decide [aa,q82,e1]
 cases A0
 case false=>simp +decide [aa,q82,e1,n0]
 cases A1
 case false=>simp +decide [aa,q82,e1,n0,n1]
 cases A2
 case false=>simp +decide [aa,q82,e1,n0,n1,n2]
 cases A3
 case false=>simp +decide [aa,q82,e1,n0,n1,n2,n3]
 simp +decide [aa,q82,e1,n0,n1,n2,n3,n4]
end
end
section
structure Fd where
 node:Int
 life:Int
 inc:Int
 asked:Int
 addrs:Sl Int
 seq:Int
 out:Int
 sent:Vw
 upon:Int
 base:Vw
 since:Int
 epochs:Int
def Fd.c (x:Fd):List D:=i64 x.node::u64 x.life::u64 x.inc::u64 x.asked::x.addrs.d aV::u64 x.seq::i64 x.out::(x.sent.c++(u64 x.upon::(x.base.c++[u64 x.since,u64 x.epochs])))
abbrev Fd.v (x:Fd):V:=ag x.c
def Fw (x:Fd)(n:Int):List V:=x.c.map .d++[.d (u64 n)]
section
variable {x:Fd}{n:Int}
@[simp] theorem Fd.len:x.c.length=22:=(rfl)
@[simp] theorem Fd.s0_22:sub x.c 0 22=some x.c:=(rfl)
@[simp] theorem Fd.s0_1:sub x.c 0 1=some [i64 x.node]:=(rfl)
@[simp] theorem Fd.s1_1:sub x.c 1 1=some [u64 x.life]:=(rfl)
@[simp] theorem Fd.s2_1:sub x.c 2 1=some [u64 x.inc]:=(rfl)
@[simp] theorem Fd.s3_1:sub x.c 3 1=some [u64 x.asked]:=(rfl)
@[simp] theorem Fd.s4_1:sub x.c 4 1=some [x.addrs.d aV]:=(rfl)
@[simp] theorem Fd.s5_1:sub x.c 5 1=some [u64 x.seq]:=(rfl)
@[simp] theorem Fd.s6_1:sub x.c 6 1=some [i64 x.out]:=(rfl)
@[simp] theorem Fd.s7_6:sub x.c 7 6=some x.sent.c:=(rfl)
@[simp] theorem Fd.s7_1:sub x.c 7 1=some [u64 x.sent.epoch]:=(rfl)
@[simp] theorem Fd.s13_1:sub x.c 13 1=some [u64 x.upon]:=(rfl)
@[simp] theorem Fd.s14_6:sub x.c 14 6=some x.base.c:=(rfl)
@[simp] theorem Fd.s20_1:sub x.c 20 1=some [u64 x.since]:=(rfl)
@[simp] theorem Fd.s21_1:sub x.c 21 1=some [u64 x.epochs]:=(rfl)
@[simp] theorem Fd.p4:put (x.c.map V.d) 4 [.d (x.addrs.d aV)]=some (x.c.map .d):=(rfl)
@[simp] theorem Fd.p7 {v:Vw}:put (x.c.map V.d) 7 (v.c.map .d)=some ((Fd.c { x with sent:=v }).map .d):=(rfl)
@[simp] theorem Fd.p14 {v:Vw}:put (x.c.map V.d) 14 (v.c.map .d)=some ((Fd.c { x with base:=v }).map .d):=(rfl)
@[simp] theorem Fw.len:(Fw x n).length=23:=(rfl)
@[simp] theorem Fw.s0_22:sub (Fw x n) 0 22=some (x.c.map .d):=(rfl)
@[simp] theorem Fw.s0_1:sub (Fw x n) 0 1=some [.d (i64 x.node)]:=(rfl)
@[simp] theorem Fw.s1_1:sub (Fw x n) 1 1=some [.d (u64 x.life)]:=(rfl)
@[simp] theorem Fw.s2_1:sub (Fw x n) 2 1=some [.d (u64 x.inc)]:=(rfl)
@[simp] theorem Fw.s3_1:sub (Fw x n) 3 1=some [.d (u64 x.asked)]:=(rfl)
@[simp] theorem Fw.s4_1:sub (Fw x n) 4 1=some [.d (x.addrs.d aV)]:=(rfl)
@[simp] theorem Fw.s5_1:sub (Fw x n) 5 1=some [.d (u64 x.seq)]:=(rfl)
@[simp] theorem Fw.s6_1:sub (Fw x n) 6 1=some [.d (i64 x.out)]:=(rfl)
@[simp] theorem Fw.s7_6:sub (Fw x n) 7 6=some (x.sent.c.map .d):=(rfl)
@[simp] theorem Fw.s7_1:sub (Fw x n) 7 1=some [.d (u64 x.sent.epoch)]:=(rfl)
@[simp] theorem Fw.s13_1:sub (Fw x n) 13 1=some [.d (u64 x.upon)]:=(rfl)
@[simp] theorem Fw.s14_6:sub (Fw x n) 14 6=some (x.base.c.map .d):=(rfl)
@[simp] theorem Fw.s20_1:sub (Fw x n) 20 1=some [.d (u64 x.since)]:=(rfl)
@[simp] theorem Fw.s21_1:sub (Fw x n) 21 1=some [.d (u64 x.epochs)]:=(rfl)
@[simp] theorem Fw.s22_1:sub (Fw x n) 22 1=some [.d (u64 n)]:=(rfl)
@[simp] theorem Fw.p2 {m:Int}:put (Fw x n) 2 [.d (u64 m)]=some (Fw { x with inc:=m } n):=(rfl)
@[simp] theorem Fw.p3 {m:Int}:put (Fw x n) 3 [.d (u64 m)]=some (Fw { x with asked:=m } n):=(rfl)
@[simp] theorem Fw.p4 {s:Sl Int}:put (Fw x n) 4 [.d (s.d aV)]=some (Fw { x with addrs:=s } n):=(rfl)
@[simp] theorem Fw.p5 {m:Int}:put (Fw x n) 5 [.d (u64 m)]=some (Fw { x with seq:=m } n):=(rfl)
@[simp] theorem Fw.p6 {m:Int}:put (Fw x n) 6 [.d (i64 m)]=some (Fw { x with out:=m } n):=(rfl)
@[simp] theorem Fw.p7 {v:Vw}:put (Fw x n) 7 (v.c.map .d)=some (Fw { x with sent:=v } n):=(rfl)
@[simp] theorem Fw.p13 {m:Int}:put (Fw x n) 13 [.d (u64 m)]=some (Fw { x with upon:=m } n):=(rfl)
@[simp] theorem Fw.p14 {v:Vw}:put (Fw x n) 14 (v.c.map .d)=some (Fw { x with base:=v } n):=(rfl)
@[simp] theorem Fw.p20 {m:Int}:put (Fw x n) 20 [.d (u64 m)]=some (Fw { x with since:=m } n):=(rfl)
@[simp] theorem Fw.p21 {m:Int}:put (Fw x n) 21 [.d (u64 m)]=some (Fw { x with epochs:=m } n):=(rfl)
end
def Fd.own (x:Fd):Fd:={ x with sent:=x.sent.own,base:=x.base.own }
structure FdOk (x:Fd):Prop where
 addrs:short x.addrs
 sent:x.sent.ok
 sentw:∀ p∈x.sent.policies.l,p.wf big
 base:x.base.ok
 basew:∀ p∈x.base.policies.l,p.wf big
def Fd.same (a b:Fd):Bool:=(a.node==b.node&&(a.life==b.life&&(a.inc==b.inc&&(a.asked==b.asked&&(a.seq==b.seq&&(a.out==b.out&&(a.upon==b.upon&&(a.since==b.since&&a.epochs==b.epochs)))))))) &&
 (all2 (λx y:Int=>x==y) a.addrs.l b.addrs.l&&(a.sent.same b.sent&&a.base.same b.base))
end
