/- slices.Sort of ints, as1 a function from outside: what the kit's contract says, said of memory of one's own. -/
import Derived.Shelf.Sort.Plain
import Derived.Shelf.Slices.In.SortNone
import Derived.Test.YtjeflmaikicdnaaGreatSq
set_option maxRecDepth 100000
set_option linter.unusedVariables false
set_option linter.unusedSimpArgs false
namespace Go.Proofs.YtjeflmaikicdnaaGreat
open IntKind (wrap)
section
open Go.Sort Go.Shelf Go.RowKit
def fD (zs:List Int):List V:=zs.map λz=>.d (.int .i64 z)
def asInt:V->Option Int
 | .d (.int .i64 z)=>some z
 | _=>none
theorem C8 {v:V}{z:Int}(h:asInt v=some z):v=.d (.int .i64 z):=by
 unfold asInt at h;split at h
 . cases h; rfl
 . cases h
theorem Rx {cs:List V}{zs:List Int}(h:cs.mapM asInt=some zs):cs=fD zs:=by
 induction cs generalizing zs with
 | nil=>simp at h; subst h; rfl
 | cons c cs ih =>
  simp only [List.mapM_cons,Option.pure_def,Option.bind_eq_bind,Option.bind_eq_some_iff] at h;obtain ⟨z,h1,zs',h2,h3⟩:=h;cases h3;rw [C8 h1,ih h2]; rfl
def bI (zs:List Int):List Int:=zs.mergeSort λx y=>decide (x<=y)
def qx (args:List V)(h:Hp):Option (V×Hp):=match args with
 | [.d (.slice true [])]=>some (.tup [],h)
 | [.row b 0 n _ 1]=>if n=0 then some (.tup [],h) else match h.get b with
  | some cs=>match cs.mapM asInt with
   | some zs=>if zs.length=n/\n<=2 ^ 30 then some (.tup [],h.set b (fD (bI zs))) else none
   | none=>none
  | none=>none
 | _=>none
theorem IA {args:List V}{h:Hp}{r:V}{h':Hp}(hm:qx args h=some (r,h')):LowOk h h':=by
 unfold qx at hm;split at hm
 . cases hm; exact LowOk.refl _
 . split at hm
   . cases hm; exact LowOk.refl _
   . split at hm
     . split at hm
       . split at hm
         . cases hm; exact LowOk.set _ _ _
         . cases hm
       . cases hm
     . cases hm
 . cases hm
variable {P:Program}{ρr:Ren}
theorem LY (Ly:Lays.n189 P ρr){B:Nat}{ρ:Rh}{h:Hp}{w:World}{args:List V}{vs:Array Value}{r:V}{h':Hp}(hR:Rel B ρ h w)(hv:VRs ρ (St ρ w) w args vs.toList)(hm:qx args h=some (r,h')) :
 Calls P (ρr.f 189) vs w (kV B ρ h w r h'):=by
 have one:∀ {x:V},args=[x]->∃ u,vs=#[u]/\VR ρ (St ρ w) w x u:=by
  rintro x rfl;simp only [VRs] at hv;obtain ⟨u,us,h1,h2,rfl⟩:=hv;refine ⟨u,?_,h2⟩;have:vs.toList=(#[u]:Array Value).toList:=by simpa using h1
  exact Array.toList_inj.1 this
 have none_:∀ {u:Value} {p:Option Addr} {c:Nat},u=.slice p 0 c->r=.tup []->h'=h->vs=#[u]->Calls P (ρr.f 189) vs w (kV B ρ h w r h'):=by
  rintro u p c rfl rfl rfl rfl;refine (Any.slices_Sort_int_none Ly p c w).mono ?_;rintro e w' ⟨rfl,rfl⟩;exact ⟨_,ρ,rfl,hR,Goes.refl _ _ _,by simp only [VRx,VR,VRs]; exact ⟨_,rfl,rfl⟩⟩
 unfold qx at hm;split at hm
 . obtain ⟨u,e1,h2⟩:=one rfl;simp only [VR,DR] at h2;obtain ⟨a,c,rfl,_⟩:=h2;cases hm;exact none_ rfl rfl rfl e1
 . rename_i b n cap;obtain ⟨u,e1,h2⟩:=one rfl;simp only [VR] at h2;obtain ⟨hb,c,rfl,hc1,hc2,_⟩:=h2;split at hm
   . rename_i hn;subst hn;cases hm;exact none_ rfl rfl rfl e1
   . rename_i hn;split at hm
     . rename_i cs hg;split at hm
       . rename_i zs hzs;split at hm
         . rename_i hlen;obtain ⟨hlen,hsmall⟩:=hlen;cases hm;have hcs:=Rx hzs;subst hcs;subst e1;have hne:fD zs≠[]:=λhh=>hn (by rw [← hlen]; have:=congrArg List.length hh; simpa [fD] using this);have hll:(fD zs).length=zs.length:=by simp [fD]
           obtain ⟨arr,el,fz,k1,k2,k3,k4⟩:=gQ hR hg hne;obtain ⟨hbl,hbe⟩:=oW hg;have hcell:∀ j (hj:j<zs.length) (hj2:j<arr.size),arr[j]=Value.int .i64 zs[j]:=by
            intro j hj hj2;have:=(k4 j (by omega) hj2).1;simpa [fD,VR,DR] using this
           have hH:Holds (Value.int .i64) w (ρ b) 0 zs.toArray:=by
            intro j hj;have hj':j<zs.length:=by simpa using hj
            have hj2:j<arr.size:=by omega
            refine ⟨?_,by simpa using k3 j hj2⟩;have:zs.toArray[j]! = zs[j]:=by rw [getElem!_pos _ j hj]; simp
            rw [this];simp [World.cell?,k1,hj2,hcell j hj' hj2]
           have hlt:=(hR.lo b hb).2;subst hlen;refine (Any.slices_Sort_int Ly (ρ b) 0 c zs w hH hlt (by omega)).mono ?_;rintro e w' ⟨rfl,nn,os,rfl⟩;have hlive:h.bs[b].live=true:=by
            rw [hbe];cases hh:fD zs with
            | nil=>exact absurd hh hne
            | cons _ _=>rfl
           have hsl:(bI zs).length=zs.length:=List.length_mergeSort _
           let w1:=putRow (Value.int .i64) (Sort.ahead w nn) (ρ b) 0 (bI zs).toArray
           have hheap:w1.heap=w.heap.modify (ρ b) (onCells (putCells (Value.int .i64) 0 (bI zs).toArray)):=rfl;have hsz:w1.heap.size=w.heap.size:=by rw [hheap]; simp
           have hoth:∀ k,k≠ρ b->w1.heap[k]?=w.heap[k]?:=λk hk=>by
            rw [hheap,Array.getElem?_modify,if_neg (Ne.symm hk)]
           have hat:w1.heap[ρ b]?=some (.cells (putCells (Value.int .i64) 0 (bI zs).toArray arr) el fz):=by
            rw [hheap,Array.getElem?_modify,if_pos rfl,k1]; rfl
           have hps:(putCells (Value.int .i64) 0 (bI zs).toArray arr).size=arr.size:=by simp [putCells]
           have hown:∀ arr' e' fz',w.heap[ρ b]?=some (.cells arr' e' fz')->∃ arr'' fz'',w1.heap[ρ b]?=some (.cells arr'' e' fz'')/\arr''.size=arr'.size:=by
            intro arr' e' fz' hh;rw [k1] at hh;cases hh;exact ⟨_,_,hat,hps⟩
           have hbr:BR ρ w1 (ρ b) (.cells (fD (bI zs))):=by
            have hl2:(fD (bI zs)).length=zs.length:=by simp [fD,hsl]
            have hne2:fD (bI zs)≠[]:=λhh=>by
             rw [hh] at hl2; exact hn hl2.symm
            have core:∃ arr' e' fz',w1.heap[ρ b]?=some (.cells arr' e' fz')/\(fD (bI zs)).length<=arr'.size/\(∀ j,j<arr'.size->w1.frozen? ⟨ρ b,j,none⟩=false) ∧
             ∀ (j:Nat) (h1:j<(fD (bI zs)).length) (h2:j<arr'.size),VR ρ (St ρ w1) w1 (fD (bI zs))[j] arr'[j]/\arr'[j].oneCell'=true:=by
             refine ⟨_,_,_,hat,by rw [hps,hl2,← hll]; exact k2,λj hj=>?_,λj h1 h2=>?_⟩
             . have:=k3 j (by rw [← hps]; exact hj);rw [← this];exact frozen?_mapBlock (Sort.ahead w nn) (ρ b) _ _
             . have hj:j<(bI zs).length:=by rw [hsl]; omega
               have hv:(putCells (Value.int .i64) 0 (bI zs).toArray arr)[j]=Value.int .i64 (bI zs)[j]:=by
                simp only [putCells,Array.getElem_mapIdx];rw [if_pos ⟨Nat.zero_le _,by simpa using hj⟩];simp [getElem!_pos,hj]
               rw [hv];exact ⟨by simp [fD,VR,DR],rfl⟩
            revert core hne2
            cases fD (bI zs) with
            | nil=>intro hne2 _; exact absurd rfl hne2
            | cons x xs=>intro _ core; simpa only [BR] using core
           have q1:=sI hR hbl hlive hsz hoth hown rfl rfl rfl (.cells (fD (bI zs))) hbr (min h.low b);have q2:=kR hR (hR.live b hbl hlive) hsz hoth hown rfl rfl rfl;have hbel:Below w1.heap.size w1 (grow w1 os):=⟨rfl,rfl,rfl,by simp [grow],λk hk=>by simp [grow,Array.getElem?_append_left hk]⟩;obtain ⟨q3,q4⟩:=tH q1 hbel;exact ⟨_,ρ,rfl,q3,q2.trans q4,by simp only [VRx,VR,VRs]; exact ⟨_,rfl,rfl⟩⟩
         . cases hm
       . cases hm
     . cases hm
 . cases hm
end
section
def Inr (k:IntKind)(n:Int):Prop:=(Lit.int k n).wf=true
def Pod.wf (B:Nat)(p:Pod):Prop:=Inr .u64 p.uid/\p.ns.size<=B/\p.sa.size<=B/\Inr .i64 p.host/\Inr .u32 p.addr/\Inr .i64 p.port/\Inr .u64 p.service
def Svc.wf (B:Nat)(p:Svc):Prop:=Inr .u64 p.id/\p.ns.size<=B/\Inr .u32 p.addr/\Inr .i64 p.port/\Inr .u64 p.way
def Way.wf (B:Nat)(p:Way):Prop:=Inr .u64 p.id/\Inr .i64 p.node
def Term.wf (B:Nat)(p:Term):Prop:=Inr .i64 p.kind/\p.text.size<=B
def Cidr.wf (B:Nat)(p:Cidr):Prop:=Inr .u32 p.addr/\Inr .i64 p.bits
def Qr (B:Nat)(n:Int):Prop:=Inr .i64 n
def Sl.wf {α:Type}(B:Nat)(f:Nat->α->Prop)(s:Sl α):Prop:=fit B s/\∀ x∈s.l,f B x
def Source.wf (B:Nat)(p:Source):Prop:=p.names.wf B Term.wf/\p.spaces.wf B Term.wf/\p.nets.wf B Cidr.wf
def Target.wf (B:Nat)(p:Target):Prop:=p.ports.wf B Qr/\p.methods.wf B Term.wf/\p.paths.wf B Term.wf/\p.hosts.wf B Term.wf
def When.wf (B:Nat)(p:When):Prop:=p.head.size<=B/\p.terms.wf B Term.wf
def Rule.wf (B:Nat)(p:Rule):Prop:=p.frm.wf B Source.wf/\p.to.wf B Target.wf/\p.whn.wf B When.wf
def Pol.wf (B:Nat)(p:Pol):Prop:=Inr .u64 p.id/\p.ns.size<=B/\Inr .u64 p.service/\Inr .i64 p.deny/\p.rules.wf B Rule.wf
def Cfg.wf (B:Nat)(c:Cfg):Prop:=Inr .u64 c.epoch/\Inr .u64 c.next/\Inr .i64 c.hosts/\Inr .i64 c.ways/\c.pods.wf B Pod.wf/\c.services.wf B Svc.wf/\c.bound.wf B Way.wf/\c.policies.wf B Pol.wf
theorem Source.wf.fits {B:Nat}{s:Source}(h:s.wf B):s.fits B:=⟨h.1.1,h.2.1.1,h.2.2.1⟩
theorem Target.wf.fits {B:Nat}{s:Target}(h:s.wf B):s.fits B:=⟨h.1.1,h.2.1.1,h.2.2.1.1,h.2.2.2.1⟩
theorem When.wf.fits {B:Nat}{s:When}(h:s.wf B):s.fits B:=h.2.1
theorem Rule.wf.fits {B:Nat}{s:Rule}(h:s.wf B):s.fits B:=⟨⟨h.1.1,λx hx=>(h.1.2 x hx).fits⟩,⟨h.2.1.1,λx hx=>(h.2.1.2 x hx).fits⟩,h.2.2.1,λx hx=>(h.2.2.2 x hx).fits⟩
theorem Pol.wf.fits {B:Nat}{s:Pol}(h:s.wf B):s.fits B:=⟨h.2.2.2.2.1,λx hx=>(h.2.2.2.2.2 x hx).fits⟩
theorem Cfg.wf.fits {B:Nat}{c:Cfg}(h:c.wf B):c.fits B:=⟨h.2.2.2.2.1.1,h.2.2.2.2.2.1.1,h.2.2.2.2.2.2.1.1,h.2.2.2.2.2.2.2.1,λx hx=>(h.2.2.2.2.2.2.2.2 x hx).fits⟩
theorem fit.le {α:Type}{B B':Nat}{s:Sl α}(hB:B<=B')(h:fit B s):fit B' s:=⟨ch h.1 hB,h.2⟩
theorem Source.fits.le {B B':Nat}(hB:B<=B'){s:Source}(h:s.fits B):s.fits B':=⟨h.1.le hB,h.2.1.le hB,h.2.2.le hB⟩
theorem Target.fits.le {B B':Nat}(hB:B<=B'){s:Target}(h:s.fits B):s.fits B':=⟨h.1.le hB,h.2.1.le hB,h.2.2.1.le hB,h.2.2.2.le hB⟩
theorem When.fits.le {B B':Nat}(hB:B<=B'){s:When}(h:s.fits B):s.fits B':=fit.le hB h
theorem Rule.fits.le {B B':Nat}(hB:B<=B'){s:Rule}(h:s.fits B):s.fits B':=⟨⟨h.1.1.le hB,λx hx=>(h.1.2 x hx).le hB⟩,⟨h.2.1.1.le hB,λx hx=>(h.2.1.2 x hx).le hB⟩,h.2.2.1.le hB,λx hx=>When.fits.le hB (h.2.2.2 x hx)⟩
theorem Pol.fits.le {B B':Nat}(hB:B<=B'){s:Pol}(h:s.fits B):s.fits B':=⟨h.1.le hB,λx hx=>(h.2 x hx).le hB⟩
theorem Cfg.fits.le {B B':Nat}(hB:B<=B'){c:Cfg}(h:c.fits B):c.fits B':=⟨h.1.le hB,h.2.1.le hB,h.2.2.1.le hB,h.2.2.2.1.le hB,λx hx=>(h.2.2.2.2 x hx).le hB⟩
theorem Cfg.wf.ok {B:Nat}{c:Cfg}(h:c.wf B)(hB:B<=big):c.ok:=h.fits.le hB
end
section
noncomputable def E1:Calls':=λf args h=>match Nat.beq f 343 with
 | true=>qx args h
 | false=>Sm (λ_ _ _=>none) TT ah f args h
def df6:List (Nat×QF):=[(280,Ll),(293,UV),(345,co9)]
def TP:FuncId->Option QF:=iW df6
def qi (f:FuncId):Bool:=Nat.beq 280 f
theorem Tj:TP 280=some Ll:=rfl
theorem Ti:TP 293=some (cloneQ 1 8 [(.d (.int .i64 0))]):=by kernel_rfl
theorem Tk:TP 345=some (cmpQ .i64):=by kernel_rfl
theorem cl4:TP 343=none:=rfl
theorem cl3:TP 338=none:=rfl
theorem cl5:TP 344=none:=rfl
theorem RU {args:List V}{h:Hp}:Sm E1 TP qi 343 args h=qx args h:=by rw [aG cl4]; rfl
theorem JP {args:List V}{h:Hp}:Sm E1 TP qi 338 args h=Sm (λ_ _ _=>none) TT ah 338 args h:=by rw [aG cl3]; rfl
theorem JQ {args:List V}{h:Hp}:Sm E1 TP qi 344 args h=Sm (λ_ _ _=>none) TT ah 344 args h:=by rw [aG cl5]; rfl
variable {E:Calls'}
def ic (n:Int):Bool:=decide (n>=1)&&decide (n<=65535)
theorem di8:TT 374=some (anyQ 398):=dd8
theorem dj4:TT 398=some idx1Q:=de7
theorem di9:TT 375=some not1Q:=dd9
theorem di0:TT 344=some (allQ 374 375):=dc3
theorem Rf (s:Sl Int)(hs:short s)(h:Hp):Sm E TT ah 344 [.d (i64 6),.d (s.d om),.fn 120 []] h=some (bl (decide ((s.l.length:Int)<=6)&&s.l.all ic),h) :=
 Ri (cell:=λn=>i64 n) dj4 dw2 di8 dv3 di9 dv4 di0 dt9 hs (λe he h=>Xr e h) h
def aZ (t:Target):Bool:=(bi t.methods&&(bi t.paths&&(bi t.hosts&&true)))&&(decide ((t.ports.l.length:Int)<=6)&&t.ports.l.all ic)&&((vZ (bI t.ports.l):Int)==(t.ports.l.length:Int))
theorem xO {T:FuncId->Option QF}{val:FuncId->Bool}{kd:IntKind}{id:FuncId}(ht:T id=some (cmpQ kd))(hv:val id=false)(h:Hp):Sm E T val id [.d (.slice true [])] h=some (.d (.slice true []),h):=by
 rw [av ht hv];simp [cmpQ,aa,V.under]
theorem wK {h:Hp}{b n:Nat}{cap:Option Nat}{ds:List D}(hb:au h.bs b=some (ds.map .d))(hn:n=ds.length):frz h (.row b 0 n cap 1)=some (.d (.slice false (ds.map λd=>[d]))):=by
 have h1:au h.bs b=some (flat (ds.map λd=>[d])++[]):=by
  have hf:∀ l:List D,(l.map λd=>[d]).flatten=l:=by
   intro l
   induction l with
   | nil=>rfl
   | cons d l ih=>simp only [cq,List.flatten_cons,ih]; rfl
  rw [hb,List.append_nil,flat,hf]
 have:=bB (h:=h) (k:=7) (b:=b) (n:=n) (cap:=cap) (z:=1) (es:=ds.map λd=>[d]) (rest:=[]) (by simp) (by simpa using hn) h1;simp only [frz,iV,this]
def sG (t:Target):Bool:=bi t.methods&&(bi t.paths&&(bi t.hosts&&true))
def kI (t:Target):Bool:=decide ((t.ports.l.length:Int)<=6)&&t.ports.l.all ic
theorem Q6 (t:Target)(ht:t.wf big)(b:Nat)(cap:Option Nat)(h:Hp)(hb:au h.bs b=some [.d (t.methods.d Term.c),.d (t.paths.d Term.c),.d (t.hosts.d Term.c)]):Sm E TT ah 338 [.row b 0 3 cap 1] h=some (bl (sG t),h):=by
 refine Re [t.methods,t.paths,t.hosts] (by simp) ?_ _ h (wK (ds:=[t.methods.d Term.c,t.paths.d Term.c,t.hosts.d Term.c]) hb rfl)
 . intro s hs;simp only [List.mem_cons,List.not_mem_nil,or_false] at hs;obtain rfl | rfl | rfl:=hs
   . exact ⟨ht.2.1.1,λx hx=>(ht.2.1.2 x hx).2⟩
   . exact ⟨ht.2.2.1.1,λx hx=>(ht.2.2.1.2 x hx).2⟩
   . exact ⟨ht.2.2.2.1,λx hx=>(ht.2.2.2.2 x hx).2⟩
theorem Jc (t:Target)(ht:t.wf big)(hl:t.ports.l=[])(hnl:t.ports.nl=true)(h:Hp):Sm E1 TP qi 280 [ag t.c] h=some (bl (aZ t),h):=by
 have hp:t.ports.d om=.slice true []:=by simp [Sl.d,hl,hnl]
 have c1:=λh=>iM (E:=E1) (T:=TP) (val:=qi) Ti rfl (by decide) (by decide) (nl:=true) (es:=[]) (by simp) (by simp) h;have c3:=λh=>xO (E:=E1) (T:=TP) (val:=qi) Tk rfl h;have c2:∀ h,qx [.d (.slice true [])] h=some (.tup [],h):=λ_=>rfl;have r1:=λb cap h hb=>Q6 (E:=λ_ _ _=>none) t ht b cap h hb;have a1:=λh=>Rf (E:=λ_ _ _=>none) t.ports ht.1.1 h;rw [← hp] at c1;have hlen:t.ports.l.length=0:=by rw [hl]; rfl
 rw [aN Tj rfl];have hT:aZ t=(sG t&&kI t&&true):=by simp [aZ,sG,kI,hl,vZ,bI]
 rw [hT];simp [aa,Ll,c1,bL,RU,c2];cases hR:sG t<;>cases hP:kI t;all_goals
  simp only [hR] at r1;have a2:=hP;unfold kI at a2;simp only [a2] at a1;simp +decide [aA,ae,JP,JQ,r1,a1,c3,az,bA,hlen]
theorem GJ (l:List Int):flat (l.map om)=fD l:=by
 simp only [flat,fD]
 induction l with
 | nil=>rfl
 | cons x l ih=>simp only [cq,List.flatten_cons,List.map_append,ih]; rfl
theorem GN (l:List Int):(fD l).mapM asInt=some l:=by
 induction l with
 | nil=>rfl
 | cons x l ih =>
  simp only [fD,cq,List.mapM_cons] at ih ⊢;simp [ih,asInt]
theorem IB (l:List Int):(bI l).length=l.length:=List.length_mergeSort _
theorem CS (t:Target)(ht:t.wf big)(hl:t.ports.l=[])(hnl:t.ports.nl=false)(h:Hp):Sm E1 TP qi 280 [ag t.c] h=some (bl (aZ t),h):=by
 have hp:t.ports.d om=.slice false []:=by simp [Sl.d,hl,hnl]
 have c1:=λh=>iM (E:=E1) (T:=TP) (val:=qi) Ti rfl (by decide) (by decide) (nl:=false) (es:=[]) (by simp) (by simp) h;have c3:=xY (E:=E1) (T:=TP) (val:=qi) Tk rfl (zs:=[]) (b:=1) (cap:=some 0) (h:=⟨[.cells (t.c.map .d),.cells [],.cells [.d (t.methods.d Term.c),.d (t.paths.d Term.c),.d (t.hosts.d Term.c)]],3⟩) (by simp) (by simp);have c2:∀ b c h,qx [.row b 0 0 c 1] h=some (.tup [],h):=λ_ _ _=>rfl;have r1:=λb cap h hb=>Q6 (E:=λ_ _ _=>none) t ht b cap h hb;have a1:=λh=>Rf (E:=λ_ _ _=>none) t.ports ht.1.1 h;rw [← hp] at c1;have hlen:t.ports.l.length=0:=by rw [hl]; rfl
 rw [aN Tj rfl];have hT:aZ t=(sG t&&kI t&&true):=by simp [aZ,sG,kI,hl,vZ,bI]
 rw [hT];obtain ⟨h',c3,c4⟩:=c3;simp [vZ] at c3;simp [aa,Ll,c1,bL,RU,c2];cases hR:sG t<;>cases hP:kI t;all_goals
  simp only [hR] at r1;have a2:=hP;unfold kI at a2;simp only [a2] at a1;obtain rfl | ⟨cur,rfl⟩:=c4<;>first | (simp +decide [aA,ae,JP,JQ,r1,a1,c3,az,bA,hlen]; done) | (simp +decide [aA,ae,JP,JQ,r1,a1,c3,az,hlen]; rw [if_pos (vO (by rfl))]; simp)
theorem Gx (t:Target)(ht:t.wf big)(hl:t.ports.l≠[])(h:Hp):Sm E1 TP qi 280 [ag t.c] h=some (bl (aZ t),h):=by
 have hnl:t.ports.nl=false:=by
  cases hh:t.ports.nl with
  | false=>rfl
  | true=>exact absurd (ht.1.1.2 hh) hl
 have hsl:=IB t.ports.l;have hne0:¬ t.ports.l.length=0:=by simpa using hl
 have hlb:t.ports.l.length<=big:=ht.1.1.1;have hp:t.ports.d om=.slice false (t.ports.l.map om):=by simp [Sl.d,hnl]
 have c1:∀ h,Sm E1 TP qi 293 [.d (t.ports.d om)] h=some (.row (h.bs.length+1) 0 t.ports.l.length none 1,⟨h.bs++[.cells [],.cells (fD t.ports.l)],min h.low h.bs.length⟩):=by
  intro h;have:=iM (E:=E1) (T:=TP) (val:=qi) Ti rfl (by decide) (by decide) (nl:=false) (es:=t.ports.l.map om) (by simp [om]) (by simpa using hlb) h;rw [hp,this];have hf:=GJ t.ports.l
  revert hf hl
  cases t.ports.l with
  | nil=>intro hl; exact absurd rfl hl
  | cons x l =>
   intro _ hf;simp only [cq] at hf;simp [bL,hf]
 have c2:∀ lo,qx [.row 2 0 t.ports.l.length none 1] ⟨[.cells (t.c.map .d),.cells [],.cells (fD t.ports.l)],lo⟩=some (.tup [],⟨[.cells (t.c.map .d),.cells [],.cells (fD (bI t.ports.l))],min lo 2⟩):=by
  intro lo;simp only [qx,if_neg hne0,get_eq,GK,yz,GN];rw [if_pos ⟨trivial,hlb⟩];rfl
 have c3:=xY (E:=E1) (T:=TP) (val:=qi) Tk rfl (zs:=bI t.ports.l) (b:=2) (cap:=none) (h:=⟨[.cells (t.c.map .d),.cells [],.cells (fD (bI t.ports.l)),.cells [.d (t.methods.d Term.c),.d (t.paths.d Term.c),.d (t.hosts.d Term.c)]],4⟩) (by simp; rfl) (by rw [hsl]; exact cg hlb (by decide));have r1:=λb cap h hb=>Q6 (E:=λ_ _ _=>none) t ht b cap h hb;have a1:=λh=>Rf (E:=λ_ _ _=>none) t.ports ht.1.1 h;rw [aN Tj rfl];have hT:aZ t=(sG t&&kI t&&((vZ (bI t.ports.l):Int)==(t.ports.l.length:Int))):=rfl;rw [hT];obtain ⟨h',c3,c4⟩:=c3;rw [hsl] at c3;generalize vZ (bI t.ports.l)=K at *;generalize fD (bI t.ports.l)=Z at *;generalize fD t.ports.l=Z0 at *;simp [aa,Ll,c1,RU,c2];cases hR:sG t<;>cases hP:kI t;all_goals
  simp only [hR] at r1;have a2:=hP;unfold kI at a2;simp only [a2] at a1;obtain rfl | ⟨cur,rfl⟩:=c4<;>first | (simp +decide [aA,ae,JP,JQ,r1,a1,c3,az,bA]; done) | (simp +decide [aA,ae,JP,JQ,r1,a1,c3,az]; rw [if_pos (vO (by rfl))]; simp)
theorem MQ (t:Target)(ht:t.wf big)(h:Hp):Sm E1 TP qi 280 [ag t.c] h=some (bl (aZ t),h):=by
 by_cases hl:t.ports.l=[]
 . cases hnl:t.ports.nl with
   | true=>exact Jc t ht hl hnl h
   | false=>exact CS t ht hl hnl h
 . exact Gx t ht hl h
end
section
variable {E:Calls'}
theorem di5:TT 369=some (anyQ 388):=dd4
theorem dj3:TT 388=some (idxQ 2):=de6
theorem di6:TT 370=some (notQ 2):=dd5
theorem dh7:TT 339=some (allQ 369 370):=db9
theorem dh5:TT 336=some (anyQ 365):=db6
theorem di3:TT 365=some (idxQ 3):=dc9
theorem dh6:TT 337=some (notQ 3):=db7
theorem dh1:TT 277=some (allQ 336 337):=da3
theorem dh8:TT 341=some (anyQ 372):=dc1
theorem di7:TT 372=some (idxQ 4):=dd7
theorem dh9:TT 342=some (notQ 4):=dc2
theorem dh2:TT 279=some (allQ 341 342):=da5
theorem di1:TT 346=some (anyQ 376):=dc4
theorem dj0:TT 376=some (idxQ 2):=de0
theorem di2:TT 347=some (notQ 2):=dc5
theorem dh3:TT 281=some (allQ 346 347):=da6
theorem dg9:TT 275=some (anyQ 335):=da1
theorem dh4:TT 335=some (idxQ 3):=db5
theorem dh0:TT 276=some (notQ 3):=da2
theorem dg8:TT 208=some (allQ 275 276):=cy9
theorem cj8:TT 280=none:=by kernel_rfl
def nk (s:Sl Cidr):Bool:=decide ((s.l.length:Int)<=6)&&s.l.all rF
theorem bm3 (s:Sl Cidr)(hs:short s)(h:Hp):Sm E TT ah 339 [.d (i64 6),.d (s.d Cidr.c),.fn 340 []] h=some (bl (nk s),h) :=
 Au (cells:=Cidr.c) dj3 dw1 di5 du9 di6 dv0 dh7 dt5 (λ_=>rfl) hs (λe he h=>bm4 e h) h
def gL (s:Source):Bool:=(bi s.names&&(bi s.spaces&&true))&&nk s.nets
theorem bl6 (s:Source)(hs:s.wf big)(h:Hp):Sm E TT ah 278 [ag s.c] h=some (bl (gL s),h):=by
 have r1:∀ b cap h,au h.bs b=some [.d (s.names.d Term.c),.d (s.spaces.d Term.c)]->Sm E TT ah 338 [.row b 0 2 cap 1] h=some (bl ([s.names,s.spaces].all bi),h):=by
  intro b cap h hb;refine Re [s.names,s.spaces] (by simp) ?_ _ h (wK (ds:=[s.names.d Term.c,s.spaces.d Term.c]) hb rfl);intro x hx;simp only [List.mem_cons,List.not_mem_nil,or_false] at hx;obtain rfl | rfl:=hx
  . exact ⟨hs.1.1,λx hx=>(hs.1.2 x hx).2⟩
  . exact ⟨hs.2.1.1,λx hx=>(hs.2.1.2 x hx).2⟩
 have a1:=λh=>bm3 (E:=E) s.nets hs.2.2.1 h;have hT:gL s=([s.names,s.spaces].all bi&&nk s.nets):=rfl;rw [hT];generalize [s.names,s.spaces].all bi=A at *;generalize nk s.nets=B at *;rw [aN da4 dr6];cases A<;>simp +decide [aa,U2,r1,a1,az]
def kr (w:When):Bool:=kY w.head&&(bi w.terms&&true)&&decide ((w.terms.l.length:Int)>0)
theorem bl7 (w:When)(hw:w.wf big)(h:Hp):Sm E TT ah 282 [ag w.c] h=some (bl (kr w),h):=by
 have r1:∀ b cap h,au h.bs b=some [.d (w.terms.d Term.c)]->Sm E TT ah 338 [.row b 0 1 cap 1] h=some (bl ([w.terms].all bi),h):=by
  intro b cap h hb;refine Re [w.terms] (by simp) ?_ _ h (wK (ds:=[w.terms.d Term.c]) hb rfl);intro x hx;simp only [List.mem_cons,List.not_mem_nil,or_false] at hx;subst hx;exact ⟨hw.2.1,λx hx=>(hw.2.2 x hx).2⟩
 have a1:=λh=>bm5 (E:=E) w.head hw.1 h;have hT:kr w=(kY w.head&&[w.terms].all bi&&decide ((w.terms.l.length:Int)>0)):=rfl;rw [hT];generalize [w.terms].all bi=A at *;generalize kY w.head=B at *;rw [aN da7 dr9];cases B<;>cases A<;>simp +decide [aa,U3,r1,a1,az]
def iq (r:Rule):Bool:=(decide ((r.frm.l.length:Int)<=3)&&r.frm.l.all gL)&&(decide ((r.to.l.length:Int)<=3)&&r.to.l.all aZ)&&(decide ((r.whn.l.length:Int)<=3)&&r.whn.l.all kr)
section
variable (h385:∀ t:Target,t.wf big->∀ h,E 280 [ag t.c] h=some (bl (aZ t),h))
include h385
theorem Xy (t:Target)(ht:t.wf big)(h:Hp):Sm E TT ah 280 [ag t.c] h=some (bl (aZ t),h):=by rw [aG cj8]; exact h385 t ht h
theorem bk6 (r:Rule)(hr:r.wf big)(h:Hp):Sm E TT ah 209 [ag r.c] h=some (bl (iq r),h):=by
 have k1:=λh=>Au (E:=E) (T:=TT) (val:=ah) (cells:=Source.c) di3 du5 dh5 dt2 dh6 dt3 dh1 dr5 (λ_=>rfl) (s:=r.frm) hr.1.1 (m:=3) (f:=278) (p:=gL) (λe he h=>bl6 e (hr.1.2 e he) h) h;have k2:=λh=>Au (E:=E) (T:=TT) (val:=ah) (cells:=Target.c) di7 dv2 dh8 dt7 dh9 dt8 dh2 dr7 (λ_=>rfl) (s:=r.to) hr.2.1.1 (m:=3) (f:=280) (p:=aZ) (λe he h=>Xy h385 e (hr.2.1.2 e he) h) h;have k3:=λh=>Au (E:=E) (T:=TT) (val:=ah) (cells:=When.c) dj0 dv5 di1 du0 di2 du1 dh3 dr8 (λ_=>rfl) (s:=r.whn) hr.2.2.1 (m:=3) (f:=282) (p:=kr) (λe he h=>bl7 e (hr.2.2.2 e he) h) h;unfold iq;generalize (decide ((r.frm.l.length:Int)<=3)&&r.frm.l.all gL)=A at *;generalize (decide ((r.to.l.length:Int)<=3)&&r.to.l.all aZ)=B at *;generalize (decide ((r.whn.l.length:Int)<=3)&&r.whn.l.all kr)=C at *;rw [aN cz0 dq2];cases A<;>cases B<;>simp +decide [aa,UI,k1,k2,k3]
def bY (p:Pol):Bool:=decide (p.id>=1)&&decide (p.id<=4611686018427387903)&&(eqS p.ns ⟨#[]⟩||cu p.ns)&&decide (p.service<=4611686018427387903)&&((p.deny==0)||(p.deny==1))&&(decide ((p.rules.l.length:Int)<=6)&&p.rules.l.all iq)
theorem Q8 (p:Pol)(hp:p.wf big)(h:Hp):Sm E TT ah 131 [ag p.c] h=some (bl (bY p),h):=by
 have k1:=λh=>Au (E:=E) (T:=TT) (val:=ah) (cells:=Rule.c) dh4 dt1 dg9 dr3 dh0 dr4 dg8 dq1 (λ_=>rfl) (s:=p.rules) hp.2.2.2.2.1 (m:=6) (f:=209) (p:=iq) (λe he h=>bk6 h385 e (hp.2.2.2.2.2 e he) h) h;have k2:=λh=>MP (E:=E) p.ns hp.2.1 h;unfold bY;generalize (decide ((p.rules.l.length:Int)<=6)&&p.rules.l.all iq)=A at *;generalize cu p.ns=B at *;rw [aN cv8 dn3];by_cases c1:p.id>=1
 case neg=>simp +decide [aa,xq,c1]
 by_cases c2:p.id<=4611686018427387903
 case neg=>simp +decide [aa,xq,c1,c2]
 cases c3:eqS p.ns ⟨#[]⟩
 case false =>
  cases B
  case false=>simp +decide [aa,xq,c1,c2,c3,k2]
  by_cases c4:p.service<=4611686018427387903
  case neg=>simp +decide [aa,xq,c1,c2,c3,k2,c4]
  by_cases c5:p.deny=0
  case pos=>simp +decide [aa,xq,c1,c2,c3,k2,c4,c5,k1]
  by_cases c6:p.deny=1<;>simp +decide [aa,xq,c1,c2,c3,k2,c4,c5,c6,k1]
 case true =>
  by_cases c4:p.service<=4611686018427387903
  case neg=>simp +decide [aa,xq,c1,c2,c3,c4]
  by_cases c5:p.deny=0
  case pos=>simp +decide [aa,xq,c1,c2,c3,c4,c5,k1]
  by_cases c6:p.deny=1<;>simp +decide [aa,xq,c1,c2,c3,c4,c5,c6,k1]
end
end
section
variable {E:Calls'}
theorem Xj (p:Pod)(h:Hp):Sm E TT ah 57 [ag p.c] h=some (.d (u64 p.uid),h):=by rw [aN ct8 dl3]; simp [aa,DU]
theorem Xk (p:Svc)(h:Hp):Sm E TT ah 60 [ag p.c] h=some (.d (u64 p.id),h):=by rw [aN t193 v193]; simp [aa,DV]
theorem Xl (p:Way)(h:Hp):Sm E TT ah 67 [ag p.c] h=some (.d (u64 p.id),h):=by rw [aN cu1 dl6]; simp [aa,DW]
theorem Xm (p:Pol)(h:Hp):Sm E TT ah 72 [ag p.c] h=some (.d (u64 p.id),h):=by rw [aN cu3 dl8]; simp [aa,H8]
theorem dg4:TT 121=some (risQ 7):=cw6
theorem dg5:TT 127=some (risQ 5):=cx2
theorem dg6:TT 129=some (risQ 2):=cx4
theorem dg7:TT 132=some (risQ 5):=cx6
theorem bh8 (s:Sl Pod)(hs:short s)(h:Hp):Sm E TT ah 121 [.d (s.d Pod.c),.fn 57 []] h=some (bl (aU (s.l.map Pod.uid)),h):=uX dg4 do0 (λ_=>rfl) hs.lt (λe _ h=>Xj e h) h
theorem bi3 (s:Sl Svc)(hs:short s)(h:Hp):Sm E TT ah 127 [.d (s.d Svc.c),.fn 60 []] h=some (bl (aU (s.l.map Svc.id)),h):=uX dg5 do5 (λ_=>rfl) hs.lt (λe _ h=>Xk e h) h
theorem bi5 (s:Sl Way)(hs:short s)(h:Hp):Sm E TT ah 129 [.d (s.d Way.c),.fn 67 []] h=some (bl (aU (s.l.map Way.id)),h):=uX dg6 do7 (λ_=>rfl) hs.lt (λe _ h=>Xl e h) h
theorem bi7 (s:Sl Pol)(hs:short s)(h:Hp):Sm E TT ah 132 [.d (s.d Pol.c),.fn 72 []] h=some (bl (aU (s.l.map Pol.id)),h):=uX dg7 do9 (λ_=>rfl) hs.lt (λe _ h=>Xm e h) h
def CF (c:Cfg)(n:Int):Option Svc:=c.services.l.find? λp=>p.id==n
theorem Qk (c:Cfg)(hc:c.ok)(n:Int)(h:Hp):Sm E TT ah 118 [c.v,.d (u64 n)] h=some (.tup (match CF c n with | some p=>[p.v,bl true] | none=>[svc0.v,bl false]),h):=Xe c hc n h
def dN (c:Cfg)(p:Pod):Bool:=decide (p.uid<10)||(decide (p.uid>=c.next)||!(cu p.ns&&cu p.sa))
def eD (c:Cfg)(p:Pod):Bool:=decide (p.host<2)||(decide (p.host>wrap .i64 (c.hosts+1))||!ic p.port)
def eY (c:Cfg)(p:Pod):Bool:=!(p.service==0)&&(match CF c p.service with | some s=>!eqS s.ns p.ns | none=>true)
def dZ (c:Cfg)(p:Pod):Bool:=dN c p||(eD c p||eY c p)
theorem cj3 (p:Pod)(hp:p.wf big)(h:Hp):Sm E TT ah 119 [.agg [.d (.str p.ns),.d (.str p.sa)]] h=some (bl (cu p.ns&&cu p.sa),h):=bh7 p.ns p.sa hp.2.1 hp.2.2.1 h
theorem Yo (n:Int)(h:Hp):Sm E TT ah 120 [.d (i64 n)] h=some (bl (ic n),h):=Xr n h
theorem bd7 (c:Cfg)(hc:c.wf big):∀ (m i:Nat) (bs:List Blk),i+m=c.pods.l.length->au bs 0=some (c.c.map .d) →
 ∃ ys,Cd E TT ah (.loop [1,8,9,10] dx) [(1,.ptr 0 0),(8,.d (c.pods.d Pod.c)),(9,.d (i64 c.pods.l.length)),(10,.d (i64 i))] ⟨bs,0⟩ =
  cond ((c.pods.l.drop i).any (dZ c)) (some (.ret,[(2,bl false)],⟨bs++ys,0⟩)) (some (.exit 0,[(1,.ptr 0 0)],⟨bs++ys,0⟩)):=by
 have hok:=hc.ok (br _);have hlt:=hok.1.lt;intro m;have key:=ax (E:=E) (T:=TT) (val:=ah) [1,8,9,10] dx;generalize Cd E TT ah (.loop [1,8,9,10] dx)=W at key ⊢
 induction m with
 | zero =>
  intro i bs hi hb;refine ⟨[],?_⟩;rw [key,bb (by omega)];simp [dx,show ¬ ((i:Int)<c.pods.l.length) from by omega]
 | succ m ih =>
  intro i bs hi hb;have h1:i<c.pods.l.length:=by omega
  have hx:=λh=>bv (z:=7) h (ab h1) (cells:=Pod.c) rfl;have hw:=aI h1 hlt;have hp:=hc.2.2.2.2.1.2 _ (bj h1);rw [key,ba h1];generalize c.pods.l[i]=p at *;have n1:=λh=>cj3 (E:=E) p hp h;have n2:=λh=>Yo (E:=E) p.port h;have n3:=λh=>Qk (E:=E) c hok p.service h;have hb2:=λys=>ak (ys:=ys) hb;have h0:((i:Int)<c.pods.l.length):=by omega
  simp only [List.any_cons];cases hsv:CF c p.service with
  | none =>
   simp only [hsv] at n3;obtain ⟨ys,q⟩:=ih (i+1) (bs++[.cells (p.c.map .d),.cells (svc0.c.map .d)]) (by omega) (hb2 _);generalize (List.drop (i+1) c.pods.l).any (dZ c)=R at q ⊢;generalize hnm:(cu p.ns&&cu p.sa)=nm at n1;generalize hpt:ic p.port=pt at n2;by_cases a1:p.uid<10
   case pos=>exact ⟨_,by simp +decide [dx,hb2,hx,n3,h0,dZ,dN,eD,eY,hsv,a1]; rfl⟩
   by_cases a2:p.uid>=c.next
   case pos=>exact ⟨_,by simp +decide [dx,hb2,hx,n3,h0,dZ,dN,eD,eY,hsv,a1,a2]; rfl⟩
   cases nm
   case false=>exact ⟨_,by simp +decide [dx,hb2,hx,n1,n3,h0,dZ,dN,eD,eY,hsv,a1,a2,hnm]; rfl⟩
   by_cases b1:p.host<2
   case pos=>exact ⟨_,by simp +decide [dx,hb2,hx,n1,n3,h0,dZ,dN,eD,eY,hsv,a1,a2,hnm,b1]; rfl⟩
   by_cases b2:p.host>wrap .i64 (c.hosts+1)
   case pos=>exact ⟨_,by simp +decide [dx,hb2,hx,n1,n3,h0,dZ,dN,eD,eY,hsv,a1,a2,hnm,b1,b2]; rfl⟩
   cases pt
   case false=>exact ⟨_,by simp +decide [dx,hb2,hx,n1,n2,n3,h0,dZ,dN,eD,eY,hsv,a1,a2,hnm,b1,b2,hpt]; rfl⟩
   by_cases c1:p.service=0
   case pos =>
    have n4:=n3;rw [c1] at n4;refine ⟨[.cells (p.c.map .d),.cells (svc0.c.map .d)]++ys,?_⟩;simp +decide [n4,dx,hb2,hx,n1,n2,h0,dZ,dN,eD,eY,a1,a2,hnm,b1,b2,hpt,c1,hw];simpa using q
   exact ⟨_,by simp +decide [dx,hb2,hx,n1,n2,n3,h0,dZ,dN,eD,eY,hsv,a1,a2,hnm,b1,b2,hpt,c1]; rfl⟩
  | some s =>
   simp only [hsv] at n3;obtain ⟨ys,q⟩:=ih (i+1) (bs++[.cells (p.c.map .d),.cells (s.c.map .d)]) (by omega) (hb2 _);generalize (List.drop (i+1) c.pods.l).any (dZ c)=R at q ⊢;generalize hnm:(cu p.ns&&cu p.sa)=nm at n1;generalize hpt:ic p.port=pt at n2;by_cases a1:p.uid<10
   case pos=>exact ⟨_,by simp +decide [dx,hb2,hx,n3,h0,dZ,dN,eD,eY,hsv,a1]; rfl⟩
   by_cases a2:p.uid>=c.next
   case pos=>exact ⟨_,by simp +decide [dx,hb2,hx,n3,h0,dZ,dN,eD,eY,hsv,a1,a2]; rfl⟩
   cases nm
   case false=>exact ⟨_,by simp +decide [dx,hb2,hx,n1,n3,h0,dZ,dN,eD,eY,hsv,a1,a2,hnm]; rfl⟩
   by_cases b1:p.host<2
   case pos=>exact ⟨_,by simp +decide [dx,hb2,hx,n1,n3,h0,dZ,dN,eD,eY,hsv,a1,a2,hnm,b1]; rfl⟩
   by_cases b2:p.host>wrap .i64 (c.hosts+1)
   case pos=>exact ⟨_,by simp +decide [dx,hb2,hx,n1,n3,h0,dZ,dN,eD,eY,hsv,a1,a2,hnm,b1,b2]; rfl⟩
   cases pt
   case false=>exact ⟨_,by simp +decide [dx,hb2,hx,n1,n2,n3,h0,dZ,dN,eD,eY,hsv,a1,a2,hnm,b1,b2,hpt]; rfl⟩
   by_cases c1:p.service=0
   case pos =>
    have n4:=n3;rw [c1] at n4;refine ⟨[.cells (p.c.map .d),.cells (s.c.map .d)]++ys,?_⟩;simp +decide [n4,dx,hb2,hx,n1,n2,h0,dZ,dN,eD,eY,a1,a2,hnm,b1,b2,hpt,c1,hw];simpa using q
   cases c2:eqS s.ns p.ns
   case false=>exact ⟨_,by simp +decide [dx,hb2,hx,n1,n2,n3,h0,dZ,dN,eD,eY,hsv,a1,a2,hnm,b1,b2,hpt,c1,c2]; rfl⟩
   refine ⟨[.cells (p.c.map .d),.cells (s.c.map .d)]++ys,?_⟩;simp +decide [dx,hb2,hx,n1,n2,n3,h0,dZ,dN,eD,eY,hsv,a1,a2,hnm,b1,b2,hpt,c1,c2,hw];simpa using q
def jT (c:Cfg):Bool:=!c.pods.l.any (dZ c)&&aU (c.pods.l.map Pod.uid)
theorem bg5 (c:Cfg)(hc:c.wf big)(h:Hp):Sm E TT ah 38 [c.v] h=some (bl (jT c),h):=by
 have hok:=hc.ok (br _);obtain ⟨ys,q⟩:=bd7 (E:=E) c hc c.pods.l.length 0 [.cells (c.c.map .d)] (by omega) (by simp);have n1:=λh=>bh8 (E:=E) c.pods hok.1 h;rw [aN cu4 dl9];simp [aa,Oj];rw [aj];simp at q;simp [q];cases hA:c.pods.l.any (dZ c)<;>simp [jT,hA,n1]
end
section
variable {E:Calls'}
theorem ak6:TT 123=some (someQ 207):=cw8
theorem ak8:TT 207=some (anyQ 194):=cy8
theorem aj9:TT 194=some (idxQ 2):=t109
theorem u201:TT 68=some (someQ 156):=t201
theorem ak2:TT 156=some (anyQ 205):=cv2
theorem aj8:TT 205=some (idxQ 5):=VE
theorem u196:TT 63=some (someQ 151):=t196
theorem ak5:TT 151=some (anyQ 227):=cw0
theorem bi1 (w:Way)(s:Svc){x:Nat}{h:Hp}(hb:au h.bs x=some (s.c.map .d)):Sm E TT ah 124 [ag w.c,.ptr x 0] h=some (bl (w.id==s.way),h):=by
 rw [av cw9 do2];simp [aa,OL,ak hb,V.under]
theorem bi0 (l:Sl Way)(hl:short l)(s:Svc){x:Nat}{h:Hp}(hb:au h.bs x=some (s.c.map .d)):Sm E TT ah 123 [.d (l.d Way.c),.fn 124 [.ptr x 0]] h=some (bl (l.l.any λw=>w.id==s.way),h) :=
 fK ak6 al1 rfl rfl (gP Way.c (z:=2) aj9 v109 ak8 al2 (RowIs.of (cells:=Way.c) (λ_=>rfl) _) hl.lt λe _ lo=>bi1 e s hb)
def gu (n:Int):Bool:=decide (n>=1)&&decide (n<=4611686018427387903)
theorem Yp (n:Int)(h:Hp):Sm E TT ah 125 [.d (u64 n)] h=some (bl (gu n),h):=bi2 n h
def qX (c:Cfg)(s:Svc):Bool:=!gu s.id||(!cu s.ns||(!ic s.port||!((s.way==0)||c.bound.l.any λw=>w.id==s.way)))
theorem bh9 (c:Cfg)(hc:c.ok)(s:Svc)(hs:s.wf big){x:Nat}{h:Hp}(hb:au h.bs x=some (c.c.map .d)):Sm E TT ah 122 [ag s.c,.ptr x 0] h=some (bl (qX c s),h):=by
 rw [av cw7 do1];have n1:=λh=>Yp (E:=E) s.id h;have n2:=λh=>MP (E:=E) s.ns hs.2.1 h;have n3:=λh=>Yo (E:=E) s.port h;have n5:∀ lo,Sm E TT ah 123 [.d (c.bound.d Way.c),.fn 124 [.ptr h.bs.length 0]] ⟨h.bs++[.cells (s.c.map .d)],lo⟩=some (bl (c.bound.l.any λw=>w.id==s.way),⟨h.bs++[.cells (s.c.map .d)],lo⟩):=λlo=>bi0 c.bound hc.2.2.1 s (by simp);unfold qX;generalize gu s.id=A at *;generalize cu s.ns=B at *;generalize ic s.port=C at *;generalize (c.bound.l.any λw=>w.id==s.way)=F at *;have hb2:=λys=>ak (ys:=ys) hb;by_cases w0:s.way=0
 . cases A<;>cases B<;>cases C<;>simp +decide [aa,Li,n1,n2,n3,w0,V.under,ai]
 . cases A<;>cases B<;>cases C<;>cases F<;>simp +decide [aa,Li,hb2,n1,n2,n3,n5,w0,V.under,ai]
def fI (c:Cfg):Bool:=!c.services.l.any (qX c)&&aU (c.services.l.map Svc.id)
theorem bg6 (c:Cfg)(hc:c.wf big)(h:Hp):Sm E TT ah 39 [c.v] h=some (bl (fI c),h):=by
 have hok:=hc.ok (br _);have n1:=λh=>bi3 (E:=E) c.services hok.2.1 h;have n2:Sm E TT ah 68 [.d (c.services.d Svc.c),.fn 122 [.ptr 0 0]] ⟨[.cells (c.c.map .d)],0⟩=some (bl (c.services.l.any (qX c)),⟨[.cells (c.c.map .d)],0⟩) :=
  fK u201 v201 rfl rfl (gP Svc.c (z:=5) aj8 P6 ak2 ak9 (RowIs.of (cells:=Svc.c) (λ_=>rfl) _) hok.2.1.lt λe he lo=>bh9 c hok e (hc.2.2.2.2.2.1.2 e he) (by simp))
 rw [aN t208 v208];unfold fI;generalize c.services.l.any (qX c)=A at *;cases A<;>simp +decide [aa,Ol,n1,n2,ai]
def tY (c:Cfg)(p:Pol):Bool:=decide (p.id<1)||(!bY p||(!(p.service==0)&&(CF c p.service).isNone))
section
variable (h385:∀ t:Target,t.wf big->∀ h,E 280 [ag t.c] h=some (bl (aZ t),h))
include h385
theorem bi6 (c:Cfg)(hc:c.ok)(p:Pol)(hp:p.wf big){x:Nat}{h:Hp}(hb:au h.bs x=some (c.c.map .d)):Sm E TT ah 130 [ag p.c,.ptr x 0] h=some (bl (tY c p),h):=by
 rw [av cx5 do8];have n1:=λh=>Q8 h385 p hp h;have n2:=λh=>Qk (E:=E) c hc p.service h;have hb2:=λys=>ak (ys:=ys) hb;unfold tY;generalize bY p=A at *;cases hsv:CF c p.service with
 | none =>
  simp only [hsv] at n2;by_cases a1:p.id<1
  case pos=>simp +decide [aa,Cc,hb2,n2,a1,V.under,ai]
  by_cases a2:p.service=0
  . rw [a2] at n2;cases A<;>simp +decide [aa,Cc,hb2,n1,n2,a1,a2,V.under,ai]
  . cases A<;>simp +decide [aa,Cc,hb2,n1,n2,a1,a2,V.under,ai]
 | some s =>
  simp only [hsv] at n2;by_cases a1:p.id<1
  case pos=>simp +decide [aa,Cc,hb2,n2,a1,V.under,ai]
  by_cases a2:p.service=0
  . rw [a2] at n2;cases A<;>simp +decide [aa,Cc,hb2,n1,n2,a1,a2,V.under,ai]
  . cases A<;>simp +decide [aa,Cc,hb2,n1,n2,a1,a2,V.under,ai]
def eP (c:Cfg):Bool:=!c.policies.l.any (tY c)&&aU (c.policies.l.map Pol.id)
theorem bg9 (c:Cfg)(hc:c.wf big)(h:Hp):Sm E TT ah 42 [c.v] h=some (bl (eP c),h):=by
 have hok:=hc.ok (br _);have n1:=λh=>bi7 (E:=E) c.policies hok.2.2.2.1 h;have n2:Sm E TT ah 63 [.d (c.policies.d Pol.c),.fn 130 [.ptr 0 0]] ⟨[.cells (c.c.map .d)],0⟩=some (bl (c.policies.l.any (tY c)),⟨[.cells (c.c.map .d)],0⟩) :=
  fK u196 v196 rfl rfl (gP Pol.c (z:=5) ak7 VM ak5 al0 (RowIs.of (cells:=Pol.c) (λ_=>rfl) _) hok.2.2.2.1.lt λe he lo=>bi6 h385 c hok e (hc.2.2.2.2.2.2.2.2 e he) (by simp))
 rw [aN cu6 dm1];unfold eP;generalize c.policies.l.any (tY c)=A at *;cases A<;>simp +decide [aa,Oq,n1,n2,ai]
end
end
section
variable {E:Calls'}
theorem bi4 (w v:Way){x:Nat}{h:Hp}(hb:au h.bs x=some (w.c.map .d)):Sm E TT ah 128 [ag v.c,.ptr x 0] h=some (bl (v.node==w.node),h):=by
 rw [av cx3 do6];simp [aa,Uv,ak hb,V.under]
theorem Xt (l:Sl Way)(hl:l.l.length<2 ^ 62)(w:Way){x:Nat}{h:Hp}(hb:au h.bs x=some (w.c.map .d)):Sm E TT ah 123 [.d (l.d Way.c),.fn 128 [.ptr x 0]] h=some (bl (l.l.any λv=>v.node==w.node),h) :=
 fK ak6 al1 rfl rfl (gP Way.c (z:=2) aj9 v109 ak8 al2 (RowIs.of (cells:=Way.c) (λ_=>rfl) _) hl λe _ lo=>bi4 w e hb)
def Ew (c:Cfg)(pre:List Way)(w:Way):Bool:=!gu w.id||(decide (w.node<wrap .i64 (c.hosts+2))||(decide (w.node>wrap .i64 (wrap .i64 (c.hosts+1)+c.ways))||pre.any λv=>v.node==w.node))
def ko (c:Cfg):List Way->List Way->Bool
 | _,[]=>false
 | pre,w::l=>Ew c pre w||ko c (pre++[w]) l
theorem LW {h:Hp}{ev:X->V}{α:Type}{cells:α->List D}{z:Nat}(hz:∀ x,(cells x).length=z){s:Sl α}{x:X}{n:Nat}(hx:ev x=.d (i64 n))(hn:n<s.l.length):bZ h ev .sl z (.d (s.d cells)) none (some x) none=some (.d (Sl.d cells ⟨s.nl,s.l.take n⟩)):=by
 simp only [bZ,Sl.d,dU,hx,cb];rw [if_pos (by omega)];simp only [Int.toNat_natCast];have hh:((s.l.map cells).headD (List.replicate z .nilp)).length=z:=by
  cases s.l with
  | nil=>simp
  | cons a l=>simp [hz]
 rw [if_pos ⟨by omega,by omega,hh⟩];simp [List.map_take]
theorem bd8 (c:Cfg)(hc:c.wf big):∀ (m i:Nat) (bs:List Blk),i+m=c.bound.l.length->au bs 0=some (c.c.map .d) →
 ∃ ys,Cd E TT ah (.loop [1,7,8,9] jy) [(1,.ptr 0 0),(7,.d (c.bound.d Way.c)),(8,.d (i64 c.bound.l.length)),(9,.d (i64 i))] ⟨bs,0⟩ =
  cond (ko c (c.bound.l.take i) (c.bound.l.drop i)) (some (.ret,[(2,bl false)],⟨bs++ys,0⟩)) (some (.exit 0,[(1,.ptr 0 0)],⟨bs++ys,0⟩)):=by
 have hok:=hc.ok (br _);have hlt:=hok.2.2.1.lt;intro m;have key:=ax (E:=E) (T:=TT) (val:=ah) [1,7,8,9] jy;generalize Cd E TT ah (.loop [1,7,8,9] jy)=W at key ⊢
 induction m with
 | zero =>
  intro i bs hi hb;refine ⟨[],?_⟩;rw [key,bb (by omega)];simp [jy,ko,show ¬ ((i:Int)<c.bound.l.length) from by omega]
 | succ m ih =>
  intro i bs hi hb;have h1:i<c.bound.l.length:=by omega
  have hx:=λh=>bv (z:=2) h (ab h1) (cells:=Way.c) rfl;have hw:=aI h1 hlt;have htake:c.bound.l.take (i+1)=c.bound.l.take i++[c.bound.l[i]]:=by rw [List.take_add_one,ab h1]; rfl
  rw [key,ba h1];generalize c.bound.l[i]=w at *;have n1:=λh=>Yp (E:=E) w.id h;have hsl:=λ(h:Hp) (ev:X->V) (hx:ev (.t 16)=.d (i64 i))=>LW (h:=h) (ev:=ev) (cells:=Way.c) (z:=2) (λ_=>rfl) (s:=c.bound) hx h1;have n2:Sm E TT ah 123 [.d (Sl.d Way.c ⟨c.bound.nl,c.bound.l.take i⟩),.fn 128 [.ptr bs.length 0]] ⟨bs++[.cells (w.c.map .d)],0⟩=some (bl ((c.bound.l.take i).any λv=>v.node==w.node),⟨bs++[.cells (w.c.map .d)],0⟩) :=
   Xt ⟨c.bound.nl,c.bound.l.take i⟩ (by simp only [List.length_take]; omega) w (by simp)
  have hb2:=λys=>ak (ys:=ys) hb;have h0:((i:Int)<c.bound.l.length):=by omega
  obtain ⟨ys,q⟩:=ih (i+1) (bs++[.cells (w.c.map .d)]) (by omega) (hb2 _);rw [htake] at q;simp only [ko];generalize ko c (c.bound.l.take i++[w]) (c.bound.l.drop (i+1))=R at q ⊢;unfold Ew;generalize gu w.id=A at *;generalize ((c.bound.l.take i).any λv=>v.node==w.node)=F at *;generalize hS:Sl.d Way.c ⟨c.bound.nl,c.bound.l.take i⟩=SS at *;cases A
  case false=>exact ⟨_,by simp +decide [jy,hb2,hx,n1,n2,hsl,h0,ai]; rfl⟩
  by_cases b1:w.node<wrap .i64 (c.hosts+2)
  case pos=>exact ⟨_,by simp +decide [jy,hb2,hx,n1,n2,hsl,h0,ai,b1]; rfl⟩
  by_cases b2:w.node>wrap .i64 (wrap .i64 (c.hosts+1)+c.ways)
  case pos=>exact ⟨_,by simp +decide [jy,hb2,hx,n1,n2,hsl,h0,ai,b1,b2]; rfl⟩
  cases F
  case true=>exact ⟨_,by simp +decide [jy,hb2,hx,n1,n2,hsl,h0,ai,b1,b2]; rfl⟩
  refine ⟨[.cells (w.c.map .d)]++ys,?_⟩;simp +decide [jy,hb2,hx,n1,n2,hsl,h0,ai,b1,b2,hw];simpa using q
def mf (c:Cfg):Bool:=!ko c [] c.bound.l&&aU (c.bound.l.map Way.id)
theorem bg8 (c:Cfg)(hc:c.wf big)(h:Hp):Sm E TT ah 41 [c.v] h=some (bl (mf c),h):=by
 have hok:=hc.ok (br _);obtain ⟨ys,q⟩:=bd8 (E:=E) c hc c.bound.l.length 0 [.cells (c.c.map .d)] (by omega) (by simp);have n1:=λh=>bi5 (E:=E) c.bound hok.2.2.1 h;rw [aN t210 v210];unfold mf;simp at q;generalize ko c [] c.bound.l=A at *;simp [aa,Oo];rw [aj];simp [q];cases A<;>simp [n1]
end
section
variable {E:Calls'}
structure Ar (c:Cfg) (acc:List Int) (bs:List Blk) (v:V):Prop where
 c0:au bs 0=some (c.c.map .d)
 is:∃ b cap,0<b/\v=.row b 0 acc.length cap 1/\au bs b=some (acc.map (iv .u32))/\(cap=none\/cap=some acc.length)
 ne:acc≠[]
theorem Ar.nu {c:Cfg}{acc:List Int}{bs:List Blk}{v:V}(h:Ar c acc bs v):Go.Proofs.YtjeflmaikicdnaaGreat.nu v=some v:=by
 obtain ⟨b,cap,_,rfl,_⟩:=h.is; rfl
theorem Ar.lay {c:Cfg}{acc:List Int}{bs:List Blk}{v:V}(h:Ar c acc bs v)(ys:List Blk):Ar c acc (bs++ys) v:=by
 obtain ⟨b,cap,k1,k2,k3,k4⟩:=h.is;exact ⟨ak h.c0,⟨b,cap,k1,k2,ak k3,k4⟩,h.ne⟩
theorem Ar.app {c:Cfg}{acc:List Int}{bs:List Blk}{v:V}(h:Ar c acc bs v)(hl:acc.length<big)(lo:Nat){x:Int}{r:Nat}{cap:Option Nat}(hr:au bs r=some [iv .u32 x]) :
 ∃ v' bs' lo',dP ⟨bs,lo⟩ 1 4 v (.row r 0 1 cap 1)=some (v',⟨bs',lo'⟩)/\Ar c (acc++[x]) bs' v':=by
 obtain ⟨b,cp,k1,rfl,k3,k4⟩:=h.is;have hbl:=aK k3;have h0l:=aK h.c0;have hrc:aB ⟨bs,lo⟩ (.row r 0 1 cap 1) 1=some (1,[iv .u32 x]):=by
  simp only [aB,if_true,get_eq,hr]; rfl
 have hsub:sub (acc.map (iv .u32)) 0 (acc.length * 1)=some (acc.map (iv .u32)):=bQ (by simp);have hroom:roomy (acc.length+1) 4=true:=by
  simp only [roomy,aw,bw]; exact ⟨hl,by decide⟩
 have hpos:0<acc.length:=List.length_pos_iff.2 h.ne;have hcs:(acc.map (iv .u32))++[iv .u32 x]=(acc++[x]).map (iv .u32):=by simp
 obtain rfl | rfl:=k4
 . refine ⟨.row bs.length 0 (acc.length+1) none 1,bs.set b (.cells [])++[.cells ((acc++[x]).map (iv .u32))],min lo b,?_,⟨?_,?_,by simp⟩⟩
   . simp only [dP,hrc,aD,get_eq,k3,hsub,hroom];simp [hpos,Hp.set]
   . refine ak ?_;have:=h.c0;unfold au at this ⊢;rw [ac (by omega)]; exact this
   . exact ⟨bs.length,none,by omega,by simp,by have:=dh (bs:=bs.set b (.cells [])) (ys:=[.cells ((acc++[x]).map (iv .u32))]); simp only [List.length_set] at this; rw [this]; rfl,.inl rfl⟩
 . refine ⟨.row bs.length 0 (acc.length+1) none 1,bs++[.cells ((acc++[x]).map (iv .u32))],lo,?_,⟨ak h.c0,?_,by simp⟩⟩
   . simp only [dP,hrc,aD,get_eq,k3,hsub,hroom];simp;intro hh; omega
   . exact ⟨bs.length,none,by omega,by simp,by rw [dh]; rfl,.inl rfl⟩
theorem WN (c:Cfg)(hc:c.ok)(hsm:c.pods.l.length<=2 ^ 20):∀ (m i:Nat) (acc:List Int) (bs:List Blk) (lo:Nat) (v:V),i+m=c.pods.l.length->acc.length=i+1->Ar c acc bs v →
 ∃ v' bs' lo',Cd E TT ah (.loop [1,3,15,16,17] pW) [(1,.ptr 0 0),(3,v),(15,.d (c.pods.d Pod.c)),(16,.d (i64 c.pods.l.length)),(17,.d (i64 i))] ⟨bs,lo⟩ =
  some (.exit 0,[(1,.ptr 0 0),(3,v')],⟨bs',lo'⟩)/\Ar c (acc++(c.pods.l.drop i).map Pod.addr) bs' v':=by
 have hlt:=hc.1.lt;intro m;have key:=ax (E:=E) (T:=TT) (val:=ah) [1,3,15,16,17] pW;generalize Cd E TT ah (.loop [1,3,15,16,17] pW)=W at key ⊢
 induction m with
 | zero =>
  intro i acc bs lo v hi ha hA;refine ⟨v,bs,lo,?_,by rw [bb (by omega)]; simpa using hA⟩;rw [key];simp [pW,show ¬ ((i:Int)<c.pods.l.length) from by omega]
 | succ m ih =>
  intro i acc bs lo v hi ha hA;have h1:i<c.pods.l.length:=by omega
  have hx:=λh=>bv (z:=7) h (ab h1) (cells:=Pod.c) rfl;have hw:=aI h1 hlt;have hnu:=hA.nu;rw [ba h1];generalize c.pods.l[i]=p at *;have hA2:=hA.lay [.cells (p.c.map .d),.cells [iv .u32 p.addr]];obtain ⟨v1,bs1,lo1,k1,k2⟩:=hA2.app (by show _<2 ^ 30; omega) (min lo bs.length) (x:=p.addr) (r:=bs.length+1) (cap:=some 1) (by simp);have hnu1:=k2.nu;obtain ⟨v',bs',lo',q1,q2⟩:=ih (i+1) (acc++[p.addr]) bs1 lo1 v1 (by omega) (by simp; omega) k2;refine ⟨v',bs',lo',?_,by simpa using q2⟩;rw [key];simp [iv] at k1;simp [pW,hx,hnu,az,k1,hnu1,hw,show ((i:Int)<c.pods.l.length) from by omega];simpa using q1
theorem WO (c:Cfg)(hc:c.ok)(n:Nat)(hn:n<=2 ^ 20)(hsm:c.services.l.length<=2 ^ 20):∀ (m i:Nat) (acc:List Int) (bs:List Blk) (lo:Nat) (v:V),i+m=c.services.l.length->acc.length=n+i+1->Ar c acc bs v →
 ∃ v' bs' lo',Cd E TT ah (.loop [3,28,29,30] pX) [(3,v),(28,.d (c.services.d Svc.c)),(29,.d (i64 c.services.l.length)),(30,.d (i64 i))] ⟨bs,lo⟩ =
  some (.exit 2,[(3,v')],⟨bs',lo'⟩)/\Ar c (acc++(c.services.l.drop i).map Svc.addr) bs' v':=by
 have hlt:=hc.2.1.lt;intro m;have key:=ax (E:=E) (T:=TT) (val:=ah) [3,28,29,30] pX;generalize Cd E TT ah (.loop [3,28,29,30] pX)=W at key ⊢
 induction m with
 | zero =>
  intro i acc bs lo v hi ha hA;refine ⟨v,bs,lo,?_,by rw [bb (by omega)]; simpa using hA⟩;rw [key];simp [pX,show ¬ ((i:Int)<c.services.l.length) from by omega]
 | succ m ih =>
  intro i acc bs lo v hi ha hA;have h1:i<c.services.l.length:=by omega
  have hx:=λh=>bv (z:=5) h (ab h1) (cells:=Svc.c) rfl;have hw:=aI h1 hlt;have hnu:=hA.nu;rw [ba h1];generalize c.services.l[i]=p at *;have hA2:=hA.lay [.cells (p.c.map .d),.cells [iv .u32 p.addr]];obtain ⟨v1,bs1,lo1,k1,k2⟩:=hA2.app (by show _<2 ^ 30; omega) (min lo bs.length) (x:=p.addr) (r:=bs.length+1) (cap:=some 1) (by simp);have hnu1:=k2.nu;obtain ⟨v',bs',lo',q1,q2⟩:=ih (i+1) (acc++[p.addr]) bs1 lo1 v1 (by omega) (by simp; omega) k2;refine ⟨v',bs',lo',?_,by simpa using q2⟩;rw [key];simp [iv] at k1;simp [pX,hx,hnu,az,k1,hnu1,hw,show ((i:Int)<c.services.l.length) from by omega];simpa using q1
theorem LF {bs:List Blk}{b lo:Nat}{l:List Int}(hb:au bs b=some (l.map (iv .u32))){j:Nat}(hj:j<l.length):ldv ⟨bs,lo⟩ (.ptr b j) 1 true=some (.d (.int .u32 l[j]),⟨bs,lo⟩):=by
 have hs:sub (l.map (iv .u32)) j 1=some [iv .u32 l[j]]:=by
  rw [eH,if_pos (by simp; omega),ba (by simpa using hj)]; simp
 rw [aC,get_eq];show (match (match au bs b with | some cs=>sub cs j 1 | none=>none) with | some cs=>_ | none=>none)=_;rw [hb];simp only [hs]; rfl
theorem WP {bs:List Blk}{b lo:Nat}{l:List Int}(hb:au bs b=some (l.map (iv .u32)))(hl:l.length<2 ^ 62){cap:Option Nat}{i:Nat}(hi:i<l.length)(x:Int):∀ (m j:Nat),j+m=i →
 Cd E TT ah (.loop [3,8,10,40,41,42,49,50,51] nG) [(3,.row b 0 l.length cap 1),(8,.d (.bool false)),(10,.d (.int .u32 x)),(40,.row b 0 l.length cap 1),(41,.d (i64 l.length)),(42,.d (i64 i)),(49,.row b 0 i cap 1),(50,.d (i64 i)),(51,.d (i64 j))] ⟨bs,lo⟩ =
  cond (((l.take i).drop j).any λy=>x==y) (some (.exit 4,[(8,bl true)],⟨bs,lo⟩)) (some (.exit 6,[(3,.row b 0 l.length cap 1),(8,.d (.bool false)),(40,.row b 0 l.length cap 1),(41,.d (i64 l.length)),(42,.d (i64 i))],⟨bs,lo⟩)):=by
 intro m;have key:=ax (E:=E) (T:=TT) (val:=ah) [3,8,10,40,41,42,49,50,51] nG;generalize Cd E TT ah (.loop [3,8,10,40,41,42,49,50,51] nG)=W at key ⊢
 induction m with
 | zero =>
  intro j hj;rw [key,bb (by simp; omega)];simp [nG,show ¬ ((j:Int)<(i:Int)) from by omega]
 | succ m ih =>
  intro j hj;have h1:j<i:=by omega
  have hix:=λh=>gD (b:=b) (o:=0) (z:=1) (cap:=cap) (kd:=.i64) (h:=h) h1;have hld:=LF (lo:=lo) hb (show j<l.length by omega);have hw:=aI (show j<l.length by omega) hl;simp only [Nat.mul_one,Nat.zero_add] at hix;have q:=ih (j+1) (by omega);rw [key,ba (show j<(l.take i).length by simp; omega)];simp only [List.getElem_take,List.any_cons];generalize l[j]'(by omega)=y at *;generalize ((l.take i).drop (j+1)).any (λy=>x==y)=R at *;have h0:((j:Int)<(i:Int)):=by omega
  by_cases hxy:x=y
  . simp [nG,hix,hld,h0,hxy,-aC]
  . simp [nG,hix,hld,h0,hxy,hw,-aC];simpa using q
def dup:List Int->List Int->Bool
 | _,[]=>false
 | pre,x::l=>(pre.any λy=>x==y)||dup (pre++[x]) l
theorem WQ {bs:List Blk}{b lo:Nat}{l:List Int}(hb:au bs b=some (l.map (iv .u32)))(hl:l.length<2 ^ 62){cap:Option Nat}:∀ (m i:Nat),i+m=l.length →
 Cd E TT ah (.loop [3,8,40,41,42] pY) [(3,.row b 0 l.length cap 1),(8,.d (.bool false)),(40,.row b 0 l.length cap 1),(41,.d (i64 l.length)),(42,.d (i64 i))] ⟨bs,lo⟩ =
  some (.exit 4,[(8,bl (dup (l.take i) (l.drop i)))],⟨bs,lo⟩):=by
 intro m;have key:=ax (E:=E) (T:=TT) (val:=ah) [3,8,40,41,42] pY;generalize Cd E TT ah (.loop [3,8,40,41,42] pY)=W at key ⊢
 induction m with
 | zero =>
  intro i hi;rw [key,bb (by omega)];simp [pY,dup,show ¬ ((i:Int)<l.length) from by omega]
 | succ m ih =>
  intro i hi;have h1:i<l.length:=by omega
  have hix:=λh=>gD (b:=b) (o:=0) (z:=1) (cap:=cap) (kd:=.i64) (h:=h) h1;have hld:=LF (lo:=lo) hb h1;have hw:=aI h1 hl;simp only [Nat.mul_one,Nat.zero_add] at hix;have q:=ih (i+1) (by omega);have htake:l.take (i+1)=l.take i++[l[i]]:=by rw [List.take_add_one,ab h1]; rfl
  have hin:=WP (E:=E) (lo:=lo) hb hl (cap:=cap) h1 l[i] i 0 (by omega);have hsl:=λ(h:Hp) (ev:X->V) (hx:ev (.t 48)=.d (.int .i64 i))=>pI (h:=h) (ev:=ev) (x:=.t 48) (b:=b) (z:=1) (len:=l.length) (cap:=cap) (n:=i) hx (by omega);rw [htake] at q;rw [key,ba h1];simp only [dup];simp only [List.drop_zero] at hin;generalize l[i]=x at *;generalize ((l.take i).any λy=>x==y)=F at *;have h0:((i:Int)<l.length):=by omega
  simp at hin;simp [pY,hix,hld,h0,hsl,-aC];rw [aj];simp [hin];cases F
  . simp [hw];simpa using q
  . simp
theorem bg7 (c:Cfg)(hc:c.wf 1048576)(h:Hp):Sm E TT ah 40 [c.v] h=some (bl (!dup [] (0::(c.pods.l.map Pod.addr++c.services.l.map Svc.addr))),h):=by
 have hok:c.ok:=hc.ok (by decide);have f1:c.pods.l.length<=2 ^ 20:=hc.2.2.2.2.1.1.1;have f2:c.services.l.length<=2 ^ 20:=hc.2.2.2.2.2.1.1.1;have hA:Ar c [0] [.cells (c.c.map .d),.cells [iv .u32 0]] (.row 1 0 1 (some 1) 1):=⟨by simp,⟨1,some 1,by omega,rfl,by simp,.inr rfl⟩,by simp⟩;obtain ⟨v1,bs1,lo1,a1,a2⟩:=WN (E:=E) c hok f1 c.pods.l.length 0 [0] _ 0 _ (by omega) rfl hA;simp only [List.drop_zero] at a2;obtain ⟨v2,bs2,lo2,b1,b2⟩:=WO (E:=E) c hok c.pods.l.length f1 f2 c.services.l.length 0 _ bs1 lo1 v1 (by omega) (by simp) a2;simp only [List.drop_zero] at b2;have hl:([0]++c.pods.l.map Pod.addr++c.services.l.map Svc.addr)=0::(c.pods.l.map Pod.addr++c.services.l.map Svc.addr):=by simp
 rw [hl] at b2;have hlen:(0::(c.pods.l.map Pod.addr++c.services.l.map Svc.addr)).length<2 ^ 62:=by simp; omega
 generalize (0::(c.pods.l.map Pod.addr++c.services.l.map Svc.addr))=L at *;obtain ⟨b,cap,p1,rfl,p3,p4⟩:=b2.is;have d1:=WQ (E:=E) (lo:=lo2) p3 hlen (cap:=cap) L.length 0 (by omega);have hc0:=a2.c0;rw [aN cu5 dm0];simp [iv] at a1;simp at b1 d1;simp [aa,Om,az];rw [aj];simp [a1,hc0];rw [aj];simp [b1];rw [aj];simp [d1]
def rz (c:Cfg):Bool:=!dup [] (0::(c.pods.l.map Pod.addr++c.services.l.map Svc.addr))
end
section
variable {E:Calls'}
def fu (c:Cfg):Bool:=decide ((c.pods.l.length:Int)<=16)&&decide ((c.services.l.length:Int)<=6)&&decide ((c.bound.l.length:Int)<=4)&&decide ((c.policies.l.length:Int)<=12)
theorem S92 (c:Cfg)(h:Hp):Sm E TT ah 21 [c.v] h=some (bl (fu c),h):=by
 unfold fu;rw [aN t92 v92];by_cases a1:(c.pods.l.length:Int)<=16
 case neg=>simp +decide [aa,q92,ai,a1]
 by_cases a2:(c.services.l.length:Int)<=6
 case neg=>simp +decide [aa,q92,ai,a1,a2]
 by_cases a3:(c.bound.l.length:Int)<=4
 case neg=>simp +decide [aa,q92,ai,a1,a2,a3]
 simp +decide [aa,q92,ai,a1,a2,a3]
def kF (c:Cfg):Bool:=decide (c.epoch<=4611686018427387903)&&decide (c.next>=10)&&decide (c.next<=4611686018427387904)&&decide (c.hosts>=1)&&decide (c.hosts<=4)&&decide (c.ways>=0)&&decide (c.ways<=4)
def rU (c:Cfg):Bool:=kF c&&jT c&&fI c&&rz c&&mf c&&eP c
theorem S93 (h385:∀ t:Target,t.wf big->∀ h,E 280 [ag t.c] h=some (bl (aZ t),h))(c:Cfg)(hc:c.wf 1048576)(hcb:c.wf big)(h:Hp):Sm E TT ah 22 [c.v] h=some (bl (rU c),h):=by
 have n1:=λh=>bg5 (E:=E) c hcb h;have n2:=λh=>bg6 (E:=E) c hcb h;have n3:∀ h,Sm E TT ah 40 [c.v] h=some (bl (rz c),h):=λh=>bg7 (E:=E) c hc h;have n4:=λh=>bg8 (E:=E) c hcb h;have n5:=λh=>bg9 h385 c hcb h;unfold rU;generalize jT c=A at *;generalize fI c=B at *;generalize rz c=C at *;generalize mf c=D at *;generalize eP c=F at *;rw [aN t93 v93];by_cases a1:c.epoch<=4611686018427387903
 case neg=>simp +decide [aa,q93,ai,kF,a1]
 by_cases a2:c.next>=10
 case neg=>simp +decide [aa,q93,ai,kF,a1,a2]
 by_cases a3:c.next<=4611686018427387904
 case neg=>simp +decide [aa,q93,ai,kF,a1,a2,a3]
 by_cases a4:c.hosts>=1
 case neg=>simp +decide [aa,q93,ai,kF,a1,a2,a3,a4]
 by_cases a5:c.hosts<=4
 case neg=>simp +decide [aa,q93,ai,kF,a1,a2,a3,a4,a5]
 by_cases a6:c.ways>=0
 case neg=>simp +decide [aa,q93,ai,kF,a1,a2,a3,a4,a5,a6]
 by_cases a7:c.ways<=4
 case neg=>simp +decide [aa,q93,ai,kF,a1,a2,a3,a4,a5,a6,a7]
 cases A
 case false=>simp +decide [aa,q93,ai,kF,a1,a2,a3,a4,a5,a6,a7,n1]
 cases B
 case false=>simp +decide [aa,q93,ai,kF,a1,a2,a3,a4,a5,a6,a7,n1,n2]
 cases C
 case false=>simp +decide [aa,q93,ai,kF,a1,a2,a3,a4,a5,a6,a7,n1,n2,n3]
 cases D
 case false=>simp +decide [aa,q93,ai,kF,a1,a2,a3,a4,a5,a6,a7,n1,n2,n3,n4]
 simp +decide [aa,q93,ai,kF,a1,a2,a3,a4,a5,a6,a7,n1,n2,n3,n4,n5]
end
section
def FI (x:V)(h:Hp):Option (V×Hp):=match x with
 | .ptr b o=>some (.ptr b o,h)
 | .eptr cs o=>some (.eptr cs o,h)
 | .fn f cs=>some (.fn f cs,h)
 | .mfn f cs=>some (.mfn f cs,h)
 | _=>none
section
variable {C:Calls'}{ev:X->V}{h:Hp}
@[simp] theorem Tg {x:X}:opE C (.nilchk x) ev h=FI (ev x) h:=(rfl)
@[simp] theorem SQ {b o:Nat}:FI (.ptr b o) h=some (.ptr b o,h):=(rfl)
@[simp] theorem av7 {b o:Nat}{neg:Bool}:eqv .ptr neg (.ptr b o) (.d .nilp) h=some (.d (.bool (false != neg)),h):=(rfl)
end
def jq (bs:List Blk)(p:Nat):Option Nat:=match au bs p with
 | some [.row b _ _ _ _]=>some b
 | _=>none
def Wr (bs:List Blk)(p:Nat)(l:List Int):Prop :=
 (l=[]/\au bs p=some [.d (.slice true [])])\/(l≠[]/\∃ b,b≠p/\au bs p=some [.row b 0 l.length none 1]/\au bs b=some (l.map (iv .u8)))
def Fx (p:Nat)(bs bs':List Blk):Prop:=bs.length<=bs'.length/\∀ x cs,x≠p->jq bs p≠some x->au bs x=some cs->au bs' x=some cs/\jq bs' p≠some x
theorem Fx.refl (p:Nat)(bs:List Blk):Fx p bs bs:=⟨br _,λx cs _ h2 h3=>⟨h3,h2⟩⟩
theorem Fx.trans {p:Nat}{a b c:List Blk}(h:Fx p a b)(k:Fx p b c):Fx p a c :=
 ⟨ch h.1 k.1,λx cs h1 h2 h3=>k.2 x cs h1 (h.2 x cs h1 h2 h3).2 (h.2 x cs h1 h2 h3).1⟩
theorem Wr.len {bs:List Blk}{p:Nat}{l:List Int}(h:Wr bs p l):p<bs.length:=by
 obtain ⟨_,h⟩ | ⟨_,b,_,h,_⟩:=h<;>exact aK h
theorem Wr.row_lt {bs:List Blk}{p:Nat}{l:List Int}(h:Wr bs p l){x:Nat}(hx:jq bs p=some x):x<bs.length:=by
 obtain ⟨_,h⟩ | ⟨_,b,_,h,h2⟩:=h
 . simp [jq,h] at hx
 . simp only [jq,h,be] at hx;subst hx; exact aK h2
theorem pQ {bs:List Blk}{p:Nat}(h:p<bs.length)(ys:List Blk):jq (bs++ys) p=jq bs p:=by
 simp only [jq,Fy h]
theorem Wr.lay {bs:List Blk}{p:Nat}{l:List Int}(h:Wr bs p l)(ys:List Blk):Wr (bs++ys) p l:=by
 obtain ⟨h1,h2⟩ | ⟨h1,b,h2,h3,h4⟩:=h
 . exact .inl ⟨h1,ak h2⟩
 . exact .inr ⟨h1,b,h2,ak h3,ak h4⟩
theorem Fx.lay {p:Nat}{bs:List Blk}(h:p<bs.length)(ys:List Blk):Fx p bs (bs++ys) :=
 ⟨by simp,λx cs h1 h2 h3=>⟨ak h3,by rw [pQ h]; exact h2⟩⟩
theorem dJ {bs:List Blk}{b x:Nat}{cs:List V}:au (bs.set b (.cells cs)) x=if b=x then (if b<bs.length then some cs else none) else au bs x:=by
 unfold au;rw [List.getElem?_set];by_cases h:b=x
 . subst h;by_cases hb:b<bs.length<;>simp [hb]
 . simp [h]
theorem Wr.app {bs:List Blk}{p:Nat}{l:List Int}(h:Wr bs p l){x:V}{xs:List Int}{m lo:Nat}(hr:aB ⟨bs,lo⟩ x 1=some (m,xs.map (iv .u8)))(hm:m=xs.length)(hl:l.length+xs.length<=big) :
 ∃ v v' bs1 lo1,au bs p=some [v]/\nu v=some v/\nu v'=some v'/\v'.cells=some [v']/\dP ⟨bs,lo⟩ 1 1 v x=some (v',⟨bs1,lo1⟩)/\p<bs1.length/\au bs1 p=some [v]/\Wr (bs1.set p (.cells [v'])) p (l++xs)/\Fx p bs (bs1.set p (.cells [v'])):=by
 subst hm;have hp:=h.len;have hroom:roomy (l.length+xs.length) 1=true:=by
  simp only [roomy,aw,bw]; exact ⟨hl,by decide⟩
 obtain ⟨rfl,h2⟩ | ⟨h1,b,h2,h3,h4⟩:=h
 . by_cases hx:xs=[]
   . subst hx;refine ⟨.d (.slice true []),.d (.slice true []),bs,lo,h2,rfl,rfl,rfl,?_,hp,h2,.inl ⟨rfl,by simp [dJ,hp]⟩,?_⟩
     . simp [dP,hr,aD]
     . refine ⟨by simp,λy cs k1 k2 k3=>⟨by rw [dJ,if_neg (Ne.symm k1)]; exact k3,?_⟩⟩;simp [jq,dJ,hp]
   . have hx0:¬ xs.length=0:=by simpa using hx
     have hroom':roomy xs.length 1=true:=by simpa using hroom
     refine ⟨.d (.slice true []),.row bs.length 0 xs.length none 1,bs++[.cells (xs.map (iv .u8))],lo,h2,rfl,rfl,rfl,?_,by simp; omega,ak h2,.inr ⟨by simpa using hx,bs.length,by omega,?_,?_⟩,?_⟩
     . simp [dP,hr,aD,hx0,hroom']
     . rw [dJ,if_pos rfl,if_pos (by simp; omega)]; simp
     . rw [dJ,if_neg (by omega),dh]; simp
     . refine ⟨by simp,λy cs k1 k2 k3=>⟨by rw [dJ,if_neg (Ne.symm k1)]; exact ak k3,?_⟩⟩;have:=aK k3;simp [jq,dJ];rw [if_pos (by omega)];simp; omega
 . have hbl:=aK h4;have hpos:0<l.length:=List.length_pos_iff.2 h1;by_cases hx:xs=[]
   . subst hx;refine ⟨.row b 0 l.length none 1,.row b 0 l.length none 1,bs,lo,h3,rfl,rfl,rfl,?_,hp,h3,.inr ⟨by simpa using h1,b,h2,?_,?_⟩,?_⟩
     . simp [dP,hr,aD]
     . rw [dJ,if_pos rfl,if_pos hp]; simp
     . rw [dJ,if_neg (Ne.symm h2)]; simpa using h4
     . refine ⟨by simp,λy cs k1 k2 k3=>⟨by rw [dJ,if_neg (Ne.symm k1)]; exact k3,?_⟩⟩;simp only [jq,h3] at k2;simpa [jq,dJ,hp] using k2
   . have hx0:¬ xs.length=0:=by simpa using hx
     have hsub:sub (l.map (iv .u8)) 0 (l.length * 1)=some (l.map (iv .u8)):=bQ (by simp);refine ⟨.row b 0 l.length none 1,.row bs.length 0 (l.length+xs.length) none 1,bs.set b (.cells [])++[.cells ((l++xs).map (iv .u8))],min lo b,h3,rfl,rfl,rfl,?_,by simp; omega,?_,.inr ⟨by simp [h1],bs.length,by omega,?_,?_⟩,?_⟩
     . simp only [dP,hr,aD,get_eq,h4,hsub,hroom];simp [hx0,hpos,Hp.set]
     . refine ak ?_;rw [dJ,if_neg h2]; exact h3
     . rw [dJ,if_pos rfl,if_pos (by simp; omega)]; simp
     . rw [dJ,if_neg (by omega)];have:=dh (bs:=bs.set b (.cells [])) (ys:=[.cells ((l++xs).map (iv .u8))]);simp only [List.length_set] at this;rw [this]; rfl
     . refine ⟨by simp,λy cs k1 k2 k3=>?_⟩;simp only [jq,h3,ne_eq,be] at k2;have:=aK k3;refine ⟨by rw [dJ,if_neg (Ne.symm k1)]; exact ak (by rw [dJ,if_neg k2]; exact k3),?_⟩;simp [jq,dJ];rw [if_pos (by omega)];simp; omega
section
variable {E:Calls'}
def jQ (E:Calls')(f:FuncId)(args:List V)(p:Nat)(bs:List Blk)(l xs:List Int):Prop:=∀ lo,∃ bs' lo',Sm E TT ah f args ⟨bs,lo⟩=some (.tup [],⟨bs',lo'⟩)/\lo'<=p/\Wr bs' p (l++xs)/\Fx p bs bs'
theorem Xu {p:Nat}{bs:List Blk}{l xs:List Int}(h:Wr bs p l){x:V}(hnu:nu x=some x){m:Nat}(hr:∀ lo,aB ⟨bs,lo⟩ x 1=some (m,xs.map (iv .u8)))(hm:m=xs.length)(hl:l.length+xs.length<=big):jQ E 134 [.ptr p 0,x] p bs l xs:=by
 intro lo;obtain ⟨v,v',bs1,lo1,k1,k2,k3,k4,k5,k6,k7,k8,k9⟩:=h.app (hr bs.length) hm hl;have hp:=h.len;refine ⟨_,min lo (min lo1 p),?_,by omega,k8,k9⟩;rw [av cx8 dp1];simp [aa,OQ,k1,k4,k5,k7,hnu,Hp.set];rw [if_neg (λhh=>by have:=hh.1; omega)];rfl
end
end
