/- What is read as data of an argument: numbers, strings, rows, the structs of layer 16. -/
import Derived.Test.YtllbjfmiilckiaaGreatMd
import Derived.Test.YtllbjfmiilckiaaGreatRows
import Derived.ProofKit
import Derived.OpenShut
import Derived.Deep.Slices
set_option linter.unusedVariables false
set_option linter.unusedSimpArgs false
namespace Go.Proofs.YtllbjfmiilckiaaGreat
open Go.ChangeShapes Go.WideShapes Go.ChangeAt Go.RowKit
abbrev bulk {H:Type} (d:DataW H):Nat:=Go.Proofs.YtllbjfmiilckiaaGreat.Rows.uptoBulk d
abbrev bulks {H:Type} (d:List (DataW H)):Nat:=Go.Proofs.YtllbjfmiilckiaaGreat.Rows.uptoBulkAll d
theorem Fy {H:Type}(d:DataW H):1<=bulk d:=by
 cases d with
 | lit l=>cases l<;>simp [bulk,Go.Proofs.YtllbjfmiilckiaaGreat.Rows.uptoBulk]
 | _=>simp [bulk,Go.Proofs.YtllbjfmiilckiaaGreat.Rows.uptoBulk]
theorem kw {H:Type}{d:DataW H}:∀ {l:List (DataW H)},d∈l->bulk d<=bulks l
 | x::l,h=>by
  have e:bulks (x::l)=bulk x+bulks l:=by simp only [bulks,bulk,Go.Proofs.YtllbjfmiilckiaaGreat.Rows.uptoBulkAll]
  rw [e];obtain rfl | h:=List.mem_cons.1 h
  . omega
  . have:=kw h; omega
theorem yJ {H:Type}:∀ (l:List (DataW H)),l.length<=bulks l
 | []=>Nat.zero_le _
 | x::l=>by
  have:=yJ l;have:=Fy x;simp only [bulks,bulk,Go.Proofs.YtllbjfmiilckiaaGreat.Rows.uptoBulkAll,ck] at *; omega
def DL (S:Nat->Prop)(w:World):List D->List Value->Prop
 | [],cs=>cs=[]
 | d::ds,cs=>∃ u us,cs=u::us/\DR S w d u/\DL S w ds us
theorem DL.len {S:Nat->Prop}{w:World}:∀ {ds:List D} {cs:List Value},DL S w ds cs->ds.length=cs.length
 | [],cs,h=>by simp only [DL] at h; subst h; rfl
 | d::ds,cs,h=>by simp only [DL] at h; obtain ⟨u,us,rfl,_,h⟩:=h; simp [h.len]
theorem DL.mem {S:Nat->Prop}{w:World}{b:Nat}:∀ {ds:List D} {cs:List Value} {o:Nat},DL S w ds cs->(∀ (i:Nat) (h:i<cs.length),cellAt w b (o+i)=some cs[i])->DRs S w b o ds
 | [],cs,o,_,_=>by simp only [DRs]
 | d::ds,cs,o,h,hc=>by
  simp only [DL] at h;obtain ⟨u,us,rfl,h1,h2⟩:=h;simp only [DRs];refine ⟨⟨u,by have:=hc 0 (by simp); simpa only [Nat.add_zero,List.getElem_cons_zero] using this,h1⟩,DL.mem h2 λi hi=>?_⟩;have:=hc (i+1) (by simpa using hi);simpa [Nat.add_assoc,Nat.add_comm 1 i] using this
theorem vv {w:World}{a:Addr}{v:Value}(h:w.cell? a=some v):a.block<w.heap.size:=by
 unfold World.cell? at h;obtain h1 | h1:=cr a.block w.heap.size
 . exact h1
 . rw [Array.getElem?_eq_none h1] at h;simp at h
section
variable {H:Type}(enc:TypeId×Value->H)(w:World)(spare:Nat->Bool)(held:Bool)(B:Nat)
def Rd {α:Type}(t:TypeId)(cells:α->List D)(ok:Nat->α->Prop):Prop :=
 ∀ (fuel:Nat) (cs:List Value) (y:DataW H×List MemPlace),DataW.trod enc Tryz.prog w 0 spare held fuel t cs=some y->bulk y.1<=B->∃ x,DL (·<w.heap.size) w (cells x) cs/\ok B x
variable {enc w spare held B}
theorem eu {α:Type}{cells:α->List D}{ok:Nat->α->Prop}{t e:TypeId}{z:Nat}(ht:Tryz.prog.underlying t=some (.slice e))(hc:Tryz.prog.cellsOf e=z)(h0:0<z)(hz:∀ x,(cells x).length=z)
 (hel:Rd enc w spare held B e cells ok):Rd enc w spare held B t (λs:Sl α=>[s.d cells]) (λB s=>s.wf B ok):=by
 intro fuel cs y h hB;obtain ⟨rfl,_⟩ | ⟨a,len,cap,m,n,D,Pl,rfl,hb,hl,hm,hmm,rfl,hx⟩:=Go.Deep.open_slice ht h
 . refine ⟨⟨true,[]⟩,⟨_,_,rfl,?_,rfl⟩,⟨Nat.zero_le _,λ_=>rfl⟩,by simp⟩;simp only [Sl.d,DR];exact ⟨none,0,rfl,br _,Nat.zero_le _,by simp,by simp,by simp⟩
 . have hlm:len<=m:=by rw [hmm]; split<;>omega
   have hbs:bulks ((List.range len).map D)<=B:=by
    simp only [bulk,Go.Proofs.YtllbjfmiilckiaaGreat.Rows.uptoBulk] at hB;show Go.Proofs.YtllbjfmiilckiaaGreat.Rows.uptoBulkAll _<=B;omega
   have hlB:len<=B:=by
    have:=yJ ((List.range len).map D);simp at this; omega
   obtain ⟨b,o,spot⟩:=a;have hsp:0<len->spot=none/\b<w.heap.size:=by
    intro hlen;obtain ⟨cs',h1,_⟩:=hx 0 (by omega);rw [hc] at h1;obtain ⟨_,h2,h3⟩:=World.cells?_some h1;have h4:=h3 0 h0;rw [ab (by omega)] at h4;have h5:=World.cell?_spot h4;have h6:=vv h4;simp [Addr.add] at h5 h6;exact ⟨h5,h6⟩
   have key:∀ i:Fin len,∃ x:α,DRs (·<w.heap.size) w b (o+i.1 * z) (cells x)/\ok B x:=by
    intro i;obtain ⟨rfl,_⟩:=hsp (by have:=i.2; omega);obtain ⟨cs',h1,h2⟩:=hx i.1 (by have:=i.2; omega);rw [hc,add_plain] at h1;obtain ⟨_,h3,h4⟩:=World.cells?_some h1;obtain ⟨x,hx1,hx2⟩:=hel _ _ _ h2 (cj (kw (ce.2 ⟨i.1,by simp,rfl⟩)) hbs);refine ⟨x,hx1.mem λj hj=>?_,hx2⟩;have:=h4 j (by omega);rw [add_plain,ab hj] at this;exact this
   refine ⟨⟨false,List.ofFn (λi=>Classical.choose (key i))⟩,⟨_,_,rfl,?_,rfl⟩,⟨by simpa using hlB,by simp⟩,?_⟩
   . simp only [Sl.d,DR];refine ⟨some ⟨b,o,spot⟩,cap,by simp,by simpa using hl,hm,by simp,by simp,λhne=>?_⟩;have hlen:0<len:=by
      obtain h | h:=Nat.eq_zero_or_pos len
      . subst h; simp at hne
      . exact h
     obtain ⟨rfl,hbw⟩:=hsp hlen;refine ⟨b,o,z,rfl,hbw,DRss.of_get λi hi=>?_⟩;have hi':i<len:=by simpa using hi
     have:=(Classical.choose_spec (key ⟨i,hi'⟩)).1;simp only [List.getElem_map,List.getElem_ofFn];exact ⟨hz _,this⟩
   . intro x hx;simp only [List.mem_ofFn] at hx;obtain ⟨i,rfl⟩:=hx;exact (Classical.choose_spec (key i)).2
theorem cB {t:TypeId}{k:IntKind}(ht:Tryz.prog.underlying t=some (.int k)):Rd enc w spare held B t (λn:Int=>[.int k n]) (λ_ n=>Inr k n):=by
 intro fuel cs y h _;obtain ⟨n,rfl,_,h2⟩:=DataW.trod_int ht h;exact ⟨n,⟨_,_,rfl,by simp only [DR],rfl⟩,h2⟩
theorem qN {t:TypeId}(ht:Tryz.prog.underlying t=some .string):Rd enc w spare held B t (λs:ByteArray=>[.str s]) (λB s=>s.size<=B):=by
 intro fuel cs y h hB;obtain ⟨s,rfl,rfl,h2⟩:=DataW.trod_string ht h;refine ⟨s,⟨_,_,rfl,by simp only [DR],rfl⟩,?_⟩;simp only [bulk,Go.Proofs.YtllbjfmiilckiaaGreat.Rows.uptoBulk] at hB;have:s.data.toList.length=s.size:=rfl;omega
theorem aH {fs:Array Field}{cs:List Value}{xs:List (DataW H×List MemPlace)}{n:Nat}
 (hf:∀ (i:Nat) (f:Field),fs[i]?=some f->DataW.trod enc Tryz.prog w 0 spare held n f.type ((cs.drop f.offset).take (Tryz.prog.cellsOf f.type))=xs[i]?)
 (hB:bulk (DataW.agg (xs.map (·.1)))<=B) {α:Type} {cells:α->List D} {ok:Nat->α->Prop} {t:TypeId} (hr:Rd enc w spare held B t cells ok) (i o c:Nat) (h:(fs[i]?).map (λf=>(f.type,f.offset))=some (t,o)) (hc:Tryz.prog.cellsOf t=c) (hi:i<xs.length) :
 ∃ x,DL (·<w.heap.size) w (cells x) ((cs.drop o).take c)/\ok B x:=by
 cases e:fs[i]? with
 | none=>simp [e] at h
 | some f =>
  simp only [e,Option.map_some,bd,cy] at h;obtain ⟨rfl,rfl⟩:=h;subst hc;have:=hf i f e;rw [ab hi] at this;refine hr _ _ _ this (cj (kw (ce.2 ⟨xs[i],bj hi,rfl⟩)) ?_);have e:bulk (DataW.agg (xs.map (·.1)))=bulks (xs.map (·.1))+1:=by simp only [bulks,bulk,Go.Proofs.YtllbjfmiilckiaaGreat.Rows.uptoBulk]
  rw [e] at hB;exact Nat.le_of_succ_le hB
theorem DL.app {S:Nat->Prop}{w:World}:∀ {a b:List D} {cs:List Value} {n:Nat},a.length=n->DL S w a (cs.take n)->DL S w b (cs.drop n)->DL S w (a++b) cs
 | [],b,cs,n,hn,_,h2=>by simp at hn; subst hn; simpa using h2
 | d::a,b,cs,n,hn,h1,h2=>by
  obtain ⟨n,rfl⟩:∃ m,n=m+1:=⟨a.length,by simpa using hn.symm⟩;cases cs with
  | nil=>simp only [DL] at h1; obtain ⟨u,us,e,_⟩:=h1; simp at e
  | cons u us =>
   simp only [List.take_succ_cons,DL] at h1;obtain ⟨u',us',e,k1,k2⟩:=h1;simp at e;obtain ⟨rfl,rfl⟩:=e;exact ⟨_,_,rfl,k1,DL.app (by simpa using hn) k2 (by simpa using h2)⟩
theorem DL.nil {S:Nat->Prop}{w:World}{cs:List Value}{n:Nat}(h:cs.length<=n):DL S w [] (cs.drop n):=by simp only [DL]; exact ba h
theorem Ko:Rd enc w spare held B 213 Term.c Term.wf:=by
 intro fuel cs y h hB;obtain ⟨xs,n,rfl,rfl,hl,hx,hf⟩:=DataW.trod_struct Tryz.underlying213 h;have hl:cs.length=2:=hl.trans (by kernel_rfl);have hx:xs.length=2:=hx;obtain ⟨x0,k0,o0⟩:=aH hf hB (cB (t:=3) Tryz.underlying3) 0 0 1 rfl (by kernel_rfl) (by omega);obtain ⟨x1,k1,o1⟩:=aH hf hB (qN (t:=9) Tryz.underlying9) 1 1 1 rfl (by kernel_rfl) (by omega);refine ⟨⟨x0,x1⟩,?_,⟨o0,o1⟩⟩;show DL _ _ ([i64 x0]++([D.str x1]++[])) cs;have a2:DL (·<w.heap.size) w [] (cs.drop 2):=DL.nil (by omega);have a1:=DL.app (cs:=cs.drop 1) (n:=1) rfl k1 (by rw [bh]; exact a2);have a0:=DL.app (cs:=cs.drop 0) (n:=1) rfl k0 (by rw [bh]; exact a1);simpa using a0
theorem kF:Rd enc w spare held B 170 (λs=>[Sl.d Term.c s]) (λB s=>Sl.wf B Term.wf s) :=
 eu (z:=2) Tryz.underlying170 (by kernel_rfl) (by decide) (λ_=>rfl) Ko
theorem Km:Rd enc w spare held B 254 Cidr.c Cidr.wf:=by
 intro fuel cs y h hB;obtain ⟨xs,n,rfl,rfl,hl,hx,hf⟩:=DataW.trod_struct Tryz.underlying254 h;have hl:cs.length=2:=hl.trans (by kernel_rfl);have hx:xs.length=2:=hx;obtain ⟨x0,k0,o0⟩:=aH hf hB (cB (t:=54) Tryz.underlying54) 0 0 1 rfl (by kernel_rfl) (by omega);obtain ⟨x1,k1,o1⟩:=aH hf hB (cB (t:=3) Tryz.underlying3) 1 1 1 rfl (by kernel_rfl) (by omega);refine ⟨⟨x0,x1⟩,?_,⟨o0,o1⟩⟩;show DL _ _ ([u32 x0]++([i64 x1]++[])) cs;have a2:DL (·<w.heap.size) w [] (cs.drop 2):=DL.nil (by omega);have a1:=DL.app (cs:=cs.drop 1) (n:=1) rfl k1 (by rw [bh]; exact a2);have a0:=DL.app (cs:=cs.drop 0) (n:=1) rfl k0 (by rw [bh]; exact a1);simpa using a0
theorem G6:Rd enc w spare held B 171 (λs=>[Sl.d Cidr.c s]) (λB s=>Sl.wf B Cidr.wf s) :=
 eu (z:=2) Tryz.underlying171 (by kernel_rfl) (by decide) (λ_=>rfl) Km
theorem Kr:Rd enc w spare held B 174 (λs=>[Sl.d gq s]) (λB s=>Sl.wf B Lc s) :=
 eu (z:=1) Tryz.underlying174 (by kernel_rfl) (by decide) (λ_=>rfl) (cB Tryz.underlying3)
theorem En:Rd enc w spare held B 173 Source.c Source.wf:=by
 intro fuel cs y h hB;obtain ⟨xs,n,rfl,rfl,hl,hx,hf⟩:=DataW.trod_struct Tryz.underlying173 h;have hl:cs.length=3:=hl.trans (by kernel_rfl);have hx:xs.length=3:=hx;obtain ⟨x0,k0,o0⟩:=aH hf hB (kF) 0 0 1 rfl (by kernel_rfl) (by omega);obtain ⟨x1,k1,o1⟩:=aH hf hB (kF) 1 1 1 rfl (by kernel_rfl) (by omega);obtain ⟨x2,k2,o2⟩:=aH hf hB (G6) 2 2 1 rfl (by kernel_rfl) (by omega);refine ⟨⟨x0,x1,x2⟩,?_,⟨o0,o1,o2⟩⟩;show DL _ _ ([Sl.d Term.c x0]++([Sl.d Term.c x1]++([Sl.d Cidr.c x2]++[]))) cs;have a3:DL (·<w.heap.size) w [] (cs.drop 3):=DL.nil (by omega);have a2:=DL.app (cs:=cs.drop 2) (n:=1) rfl k2 (by rw [bh]; exact a3);have a1:=DL.app (cs:=cs.drop 1) (n:=1) rfl k1 (by rw [bh]; exact a2);have a0:=DL.app (cs:=cs.drop 0) (n:=1) rfl k0 (by rw [bh]; exact a1);simpa using a0
theorem Bz:Rd enc w spare held B 98 (λs=>[Sl.d Source.c s]) (λB s=>Sl.wf B Source.wf s) :=
 eu (z:=3) Tryz.underlying98 (by kernel_rfl) (by decide) (λ_=>rfl) En
theorem Eo:Rd enc w spare held B 176 Target.c Target.wf:=by
 intro fuel cs y h hB;obtain ⟨xs,n,rfl,rfl,hl,hx,hf⟩:=DataW.trod_struct Tryz.underlying176 h;have hl:cs.length=4:=hl.trans (by kernel_rfl);have hx:xs.length=4:=hx;obtain ⟨x0,k0,o0⟩:=aH hf hB (Kr) 0 0 1 rfl (by kernel_rfl) (by omega);obtain ⟨x1,k1,o1⟩:=aH hf hB (kF) 1 1 1 rfl (by kernel_rfl) (by omega);obtain ⟨x2,k2,o2⟩:=aH hf hB (kF) 2 2 1 rfl (by kernel_rfl) (by omega);obtain ⟨x3,k3,o3⟩:=aH hf hB (kF) 3 3 1 rfl (by kernel_rfl) (by omega);refine ⟨⟨x0,x1,x2,x3⟩,?_,⟨o0,o1,o2,o3⟩⟩;show DL _ _ ([Sl.d gq x0]++([Sl.d Term.c x1]++([Sl.d Term.c x2]++([Sl.d Term.c x3]++[])))) cs;have a4:DL (·<w.heap.size) w [] (cs.drop 4):=DL.nil (by omega);have a3:=DL.app (cs:=cs.drop 3) (n:=1) rfl k3 (by rw [bh]; exact a4);have a2:=DL.app (cs:=cs.drop 2) (n:=1) rfl k2 (by rw [bh]; exact a3);have a1:=DL.app (cs:=cs.drop 1) (n:=1) rfl k1 (by rw [bh]; exact a2);have a0:=DL.app (cs:=cs.drop 0) (n:=1) rfl k0 (by rw [bh]; exact a1);simpa using a0
theorem BA:Rd enc w spare held B 99 (λs=>[Sl.d Target.c s]) (λB s=>Sl.wf B Target.wf s) :=
 eu (z:=4) Tryz.underlying99 (by kernel_rfl) (by decide) (λ_=>rfl) Eo
theorem Kq:Rd enc w spare held B 178 When.c When.wf:=by
 intro fuel cs y h hB;obtain ⟨xs,n,rfl,rfl,hl,hx,hf⟩:=DataW.trod_struct Tryz.underlying178 h;have hl:cs.length=2:=hl.trans (by kernel_rfl);have hx:xs.length=2:=hx;obtain ⟨x0,k0,o0⟩:=aH hf hB (qN (t:=9) Tryz.underlying9) 0 0 1 rfl (by kernel_rfl) (by omega);obtain ⟨x1,k1,o1⟩:=aH hf hB (kF) 1 1 1 rfl (by kernel_rfl) (by omega);refine ⟨⟨x0,x1⟩,?_,⟨o0,o1⟩⟩;show DL _ _ ([D.str x0]++([Sl.d Term.c x1]++[])) cs;have a2:DL (·<w.heap.size) w [] (cs.drop 2):=DL.nil (by omega);have a1:=DL.app (cs:=cs.drop 1) (n:=1) rfl k1 (by rw [bh]; exact a2);have a0:=DL.app (cs:=cs.drop 0) (n:=1) rfl k0 (by rw [bh]; exact a1);simpa using a0
theorem G8:Rd enc w spare held B 100 (λs=>[Sl.d When.c s]) (λB s=>Sl.wf B When.wf s) :=
 eu (z:=2) Tryz.underlying100 (by kernel_rfl) (by decide) (λ_=>rfl) Kq
theorem Kn:Rd enc w spare held B 102 Rule.c Rule.wf:=by
 intro fuel cs y h hB;obtain ⟨xs,n,rfl,rfl,hl,hx,hf⟩:=DataW.trod_struct Tryz.underlying102 h;have hl:cs.length=3:=hl.trans (by kernel_rfl);have hx:xs.length=3:=hx;obtain ⟨x0,k0,o0⟩:=aH hf hB (Bz) 0 0 1 rfl (by kernel_rfl) (by omega);obtain ⟨x1,k1,o1⟩:=aH hf hB (BA) 1 1 1 rfl (by kernel_rfl) (by omega);obtain ⟨x2,k2,o2⟩:=aH hf hB (G8) 2 2 1 rfl (by kernel_rfl) (by omega);refine ⟨⟨x0,x1,x2⟩,?_,⟨o0,o1,o2⟩⟩;show DL _ _ ([Sl.d Source.c x0]++([Sl.d Target.c x1]++([Sl.d When.c x2]++[]))) cs;have a3:DL (·<w.heap.size) w [] (cs.drop 3):=DL.nil (by omega);have a2:=DL.app (cs:=cs.drop 2) (n:=1) rfl k2 (by rw [bh]; exact a3);have a1:=DL.app (cs:=cs.drop 1) (n:=1) rfl k1 (by rw [bh]; exact a2);have a0:=DL.app (cs:=cs.drop 0) (n:=1) rfl k0 (by rw [bh]; exact a1);simpa using a0
theorem G7:Rd enc w spare held B 69 (λs=>[Sl.d Rule.c s]) (λB s=>Sl.wf B Rule.wf s) :=
 eu (z:=3) Tryz.underlying69 (by kernel_rfl) (by decide) (λ_=>rfl) Kn
theorem Pb:Rd enc w spare held B 71 Pol.c Pol.wf:=by
 intro fuel cs y h hB;obtain ⟨xs,n,rfl,rfl,hl,hx,hf⟩:=DataW.trod_struct Tryz.underlying71 h;have hl:cs.length=5:=hl.trans (by kernel_rfl);have hx:xs.length=5:=hx;obtain ⟨x0,k0,o0⟩:=aH hf hB (cB (t:=22) Tryz.underlying22) 0 0 1 rfl (by kernel_rfl) (by omega);obtain ⟨x1,k1,o1⟩:=aH hf hB (qN (t:=9) Tryz.underlying9) 1 1 1 rfl (by kernel_rfl) (by omega);obtain ⟨x2,k2,o2⟩:=aH hf hB (cB (t:=22) Tryz.underlying22) 2 2 1 rfl (by kernel_rfl) (by omega);obtain ⟨x3,k3,o3⟩:=aH hf hB (cB (t:=3) Tryz.underlying3) 3 3 1 rfl (by kernel_rfl) (by omega);obtain ⟨x4,k4,o4⟩:=aH hf hB (G7) 4 4 1 rfl (by kernel_rfl) (by omega);refine ⟨⟨x0,x1,x2,x3,x4⟩,?_,⟨o0,o1,o2,o3,o4⟩⟩;show DL _ _ ([u64 x0]++([D.str x1]++([u64 x2]++([i64 x3]++([Sl.d Rule.c x4]++[]))))) cs;have a5:DL (·<w.heap.size) w [] (cs.drop 5):=DL.nil (by omega);have a4:=DL.app (cs:=cs.drop 4) (n:=1) rfl k4 (by rw [bh]; exact a5);have a3:=DL.app (cs:=cs.drop 3) (n:=1) rfl k3 (by rw [bh]; exact a4);have a2:=DL.app (cs:=cs.drop 2) (n:=1) rfl k2 (by rw [bh]; exact a3);have a1:=DL.app (cs:=cs.drop 1) (n:=1) rfl k1 (by rw [bh]; exact a2);have a0:=DL.app (cs:=cs.drop 0) (n:=1) rfl k0 (by rw [bh]; exact a1);simpa using a0
theorem xI:Rd enc w spare held B 27 (λs=>[Sl.d Pol.c s]) (λB s=>Sl.wf B Pol.wf s) :=
 eu (z:=5) Tryz.underlying27 (by kernel_rfl) (by decide) (λ_=>rfl) Pb
theorem Pd:Rd enc w spare held B 60 Svc.c Svc.wf:=by
 intro fuel cs y h hB;obtain ⟨xs,n,rfl,rfl,hl,hx,hf⟩:=DataW.trod_struct Tryz.underlying60 h;have hl:cs.length=5:=hl.trans (by kernel_rfl);have hx:xs.length=5:=hx;obtain ⟨x0,k0,o0⟩:=aH hf hB (cB (t:=22) Tryz.underlying22) 0 0 1 rfl (by kernel_rfl) (by omega);obtain ⟨x1,k1,o1⟩:=aH hf hB (qN (t:=9) Tryz.underlying9) 1 1 1 rfl (by kernel_rfl) (by omega);obtain ⟨x2,k2,o2⟩:=aH hf hB (cB (t:=54) Tryz.underlying54) 2 2 1 rfl (by kernel_rfl) (by omega);obtain ⟨x3,k3,o3⟩:=aH hf hB (cB (t:=3) Tryz.underlying3) 3 3 1 rfl (by kernel_rfl) (by omega);obtain ⟨x4,k4,o4⟩:=aH hf hB (cB (t:=22) Tryz.underlying22) 4 4 1 rfl (by kernel_rfl) (by omega);refine ⟨⟨x0,x1,x2,x3,x4⟩,?_,⟨o0,o1,o2,o3,o4⟩⟩;show DL _ _ ([u64 x0]++([D.str x1]++([u32 x2]++([i64 x3]++([u64 x4]++[]))))) cs;have a5:DL (·<w.heap.size) w [] (cs.drop 5):=DL.nil (by omega);have a4:=DL.app (cs:=cs.drop 4) (n:=1) rfl k4 (by rw [bh]; exact a5);have a3:=DL.app (cs:=cs.drop 3) (n:=1) rfl k3 (by rw [bh]; exact a4);have a2:=DL.app (cs:=cs.drop 2) (n:=1) rfl k2 (by rw [bh]; exact a3);have a1:=DL.app (cs:=cs.drop 1) (n:=1) rfl k1 (by rw [bh]; exact a2);have a0:=DL.app (cs:=cs.drop 0) (n:=1) rfl k0 (by rw [bh]; exact a1);simpa using a0
theorem xJ:Rd enc w spare held B 25 (λs=>[Sl.d Svc.c s]) (λB s=>Sl.wf B Svc.wf s) :=
 eu (z:=5) Tryz.underlying25 (by kernel_rfl) (by decide) (λ_=>rfl) Pd
theorem Pe:Rd enc w spare held B 62 Way.c Way.wf:=by
 intro fuel cs y h hB;obtain ⟨xs,n,rfl,rfl,hl,hx,hf⟩:=DataW.trod_struct Tryz.underlying62 h;have hl:cs.length=2:=hl.trans (by kernel_rfl);have hx:xs.length=2:=hx;obtain ⟨x0,k0,o0⟩:=aH hf hB (cB (t:=22) Tryz.underlying22) 0 0 1 rfl (by kernel_rfl) (by omega);obtain ⟨x1,k1,o1⟩:=aH hf hB (cB (t:=3) Tryz.underlying3) 1 1 1 rfl (by kernel_rfl) (by omega);refine ⟨⟨x0,x1⟩,?_,⟨o0,o1⟩⟩;show DL _ _ ([u64 x0]++([i64 x1]++[])) cs;have a2:DL (·<w.heap.size) w [] (cs.drop 2):=DL.nil (by omega);have a1:=DL.app (cs:=cs.drop 1) (n:=1) rfl k1 (by rw [bh]; exact a2);have a0:=DL.app (cs:=cs.drop 0) (n:=1) rfl k0 (by rw [bh]; exact a1);simpa using a0
theorem xK:Rd enc w spare held B 26 (λs=>[Sl.d Way.c s]) (λB s=>Sl.wf B Way.wf s) :=
 eu (z:=2) Tryz.underlying26 (by kernel_rfl) (by decide) (λ_=>rfl) Pe
theorem Kt:Rd enc w spare held B 56 (λx:ByteArray×ByteArray=>[.str x.1,.str x.2]) (λB x=>x.1.size<=B/\x.2.size<=B):=by
 intro fuel cs y h hB;obtain ⟨xs,n,rfl,rfl,hl,hx,hf⟩:=DataW.trod_struct Tryz.underlying56 h;have hl:cs.length=2:=hl.trans (by kernel_rfl);have hx:xs.length=2:=hx;obtain ⟨x0,k0,o0⟩:=aH hf hB (qN (t:=9) Tryz.underlying9) 0 0 1 rfl (by kernel_rfl) (by omega);obtain ⟨x1,k1,o1⟩:=aH hf hB (qN (t:=9) Tryz.underlying9) 1 1 1 rfl (by kernel_rfl) (by omega);refine ⟨(x0,x1),?_,o0,o1⟩;show DL _ _ ([D.str x0]++([D.str x1]++[])) cs;have a2:DL (·<w.heap.size) w [] (cs.drop 2):=DL.nil (by omega);have a1:=DL.app (cs:=cs.drop 1) (n:=1) rfl k1 (by rw [bh]; exact a2);have a0:=DL.app (cs:=cs.drop 0) (n:=1) rfl k0 (by rw [bh]; exact a1);simpa using a0
theorem O9:Rd enc w spare held B 58 Pod.c Pod.wf:=by
 intro fuel cs y h hB;obtain ⟨xs,n,rfl,rfl,hl,hx,hf⟩:=DataW.trod_struct Tryz.underlying58 h;have hl:cs.length=7:=hl.trans (by kernel_rfl);have hx:xs.length=6:=hx;obtain ⟨x0,k0,o0⟩:=aH hf hB (cB (t:=22) Tryz.underlying22) 0 0 1 rfl (by kernel_rfl) (by omega);obtain ⟨x1,k1,o1⟩:=aH hf hB (Kt) 1 1 2 rfl (by kernel_rfl) (by omega);obtain ⟨x2,k2,o2⟩:=aH hf hB (cB (t:=3) Tryz.underlying3) 2 3 1 rfl (by kernel_rfl) (by omega);obtain ⟨x3,k3,o3⟩:=aH hf hB (cB (t:=54) Tryz.underlying54) 3 4 1 rfl (by kernel_rfl) (by omega);obtain ⟨x4,k4,o4⟩:=aH hf hB (cB (t:=3) Tryz.underlying3) 4 5 1 rfl (by kernel_rfl) (by omega);obtain ⟨x5,k5,o5⟩:=aH hf hB (cB (t:=22) Tryz.underlying22) 5 6 1 rfl (by kernel_rfl) (by omega);refine ⟨⟨x0,x1.1,x1.2,x2,x3,x4,x5⟩,?_,⟨o0,o1.1,o1.2,o2,o3,o4,o5⟩⟩;show DL _ _ ([u64 x0]++([D.str x1.1,D.str x1.2]++([i64 x2]++([u32 x3]++([i64 x4]++([u64 x5]++[])))))) cs;have a6:DL (·<w.heap.size) w [] (cs.drop 7):=DL.nil (by omega);have a5:=DL.app (cs:=cs.drop 6) (n:=1) rfl k5 (by rw [bh]; exact a6);have a4:=DL.app (cs:=cs.drop 5) (n:=1) rfl k4 (by rw [bh]; exact a5);have a3:=DL.app (cs:=cs.drop 4) (n:=1) rfl k3 (by rw [bh]; exact a4);have a2:=DL.app (cs:=cs.drop 3) (n:=1) rfl k2 (by rw [bh]; exact a3);have a1:=DL.app (cs:=cs.drop 1) (n:=2) rfl k1 (by rw [bh]; exact a2)
 have a0:=DL.app (cs:=cs.drop 0) (n:=1) rfl k0 (by rw [bh]; exact a1);simpa using a0
theorem xH:Rd enc w spare held B 24 (λs=>[Sl.d Pod.c s]) (λB s=>Sl.wf B Pod.wf s) :=
 eu (z:=7) Tryz.underlying24 (by kernel_rfl) (by decide) (λ_=>rfl) O9
theorem ax4:Rd enc w spare held B 49 Cfg.c Cfg.wf:=by
 intro fuel cs y h hB;obtain ⟨xs,n,rfl,rfl,hl,hx,hf⟩:=DataW.trod_struct Tryz.underlying49 h;have hl:cs.length=8:=hl.trans (by kernel_rfl);have hx:xs.length=8:=hx;obtain ⟨x0,k0,o0⟩:=aH hf hB (cB (t:=22) Tryz.underlying22) 0 0 1 rfl (by kernel_rfl) (by omega);obtain ⟨x1,k1,o1⟩:=aH hf hB (cB (t:=22) Tryz.underlying22) 1 1 1 rfl (by kernel_rfl) (by omega);obtain ⟨x2,k2,o2⟩:=aH hf hB (cB (t:=3) Tryz.underlying3) 2 2 1 rfl (by kernel_rfl) (by omega);obtain ⟨x3,k3,o3⟩:=aH hf hB (cB (t:=3) Tryz.underlying3) 3 3 1 rfl (by kernel_rfl) (by omega);obtain ⟨x4,k4,o4⟩:=aH hf hB (xH) 4 4 1 rfl (by kernel_rfl) (by omega);obtain ⟨x5,k5,o5⟩:=aH hf hB (xJ) 5 5 1 rfl (by kernel_rfl) (by omega);obtain ⟨x6,k6,o6⟩:=aH hf hB (xK) 6 6 1 rfl (by kernel_rfl) (by omega);obtain ⟨x7,k7,o7⟩:=aH hf hB (xI) 7 7 1 rfl (by kernel_rfl) (by omega);refine ⟨⟨x0,x1,x2,x3,x4,x5,x6,x7⟩,?_,⟨o0,o1,o2,o3,o4,o5,o6,o7⟩⟩;show DL _ _ ([u64 x0]++([u64 x1]++([i64 x2]++([i64 x3]++([Sl.d Pod.c x4]++([Sl.d Svc.c x5]++([Sl.d Way.c x6]++([Sl.d Pol.c x7]++[])))))))) cs;have a8:DL (·<w.heap.size) w [] (cs.drop 8):=DL.nil (by omega);have a7:=DL.app (cs:=cs.drop 7) (n:=1) rfl k7 (by rw [bh]; exact a8);have a6:=DL.app (cs:=cs.drop 6) (n:=1) rfl k6 (by rw [bh]; exact a7);have a5:=DL.app (cs:=cs.drop 5) (n:=1) rfl k5 (by rw [bh]; exact a6)
 have a4:=DL.app (cs:=cs.drop 4) (n:=1) rfl k4 (by rw [bh]; exact a5);have a3:=DL.app (cs:=cs.drop 3) (n:=1) rfl k3 (by rw [bh]; exact a4);have a2:=DL.app (cs:=cs.drop 2) (n:=1) rfl k2 (by rw [bh]; exact a3);have a1:=DL.app (cs:=cs.drop 1) (n:=1) rfl k1 (by rw [bh]; exact a2);have a0:=DL.app (cs:=cs.drop 0) (n:=1) rfl k0 (by rw [bh]; exact a1);simpa using a0
end
