/- view.Of: what a node has to know; plain facts. -/
import Derived.Test.YtmahnnnccohccaaGreatVa
import Derived.Test.YtmahnnnccohccaaGreatWo
import Derived.Test.YtmahnnnccohccaaGreatSx
import Derived.Test.YtmahnnnccohccaaGreatQt
import Derived.Test.YtmahnnnccohccaaGreatMa
set_option maxRecDepth 100000
set_option linter.unusedVariables false
set_option linter.unusedSimpArgs false
namespace Go.Proofs.YtmahnnnccohccaaGreat
structure Scp where
 node:Int
 addrs:Sl Int
theorem hasT_iff {l:List Int} {n:Int}:hasT l n = true ↔ n ∈ l:=by
 simp [hasT,List.find?_isSome]
end Go.Proofs.YtmahnnnccohccaaGreat
namespace Go.Proofs.YtmahnnnccohccaaGreat
def cmpL:List Int -> List Int
 | []=>[]
 | [x]=>[x]
 | x :: y :: l=>if x = y then cmpL (y :: l) else x :: cmpL (y :: l)
def coversT (l:List Int) (most:Int):Bool:=(risesL l && decide ((l.length:Int) <= most)) && !hasT l 0
theorem pair_rises:∀ {l:List Int},l.Pairwise (· < ·) -> risesL l = true
 | [],_=>rfl
 | [x],_=>rfl
 | x :: y :: l,h=>by
  obtain ⟨h1,h2⟩:=List.pairwise_cons.1 h
  simp only [risesL,Bool.and_eq_true,decide_eq_true_eq]
  exact ⟨h1 y (by simp),pair_rises h2⟩
def vpodBad (p:Pod):Bool:=decide ((p.ns.size:Int) > 64) || (decide ((p.sa.size:Int) > 64) || (decide (p.host < 0) || (decide (p.host > 9) || (decide (p.port < 0) || decide (p.port > 65535)))))
def vsvcBad (p:Svc):Bool:=decide ((p.ns.size:Int) > 64) || (decide (p.port < 0) || decide (p.port > 65535))
def vwayBad (p:Way):Bool:=decide (p.node < 0) || decide (p.node > 9)
def risK {α:Type} (key:α -> Int) (l:List α) (most:Int):Bool:=risesL (l.map key) && decide ((l.length:Int) <= most)
def oddT (v:Vw):Bool:=v.pods.l.any vpodBad || (v.services.l.any vsvcBad || v.bound.l.any vwayBad)
def thingsT (v:Vw):Bool:=!oddT v && (risK Pod.uid v.pods.l 16 && (risK Svc.id v.services.l 6 && (risK Way.id v.bound.l 4 && risK Pol.id v.policies.l 12)))
def vwMay (v:Vw):Bool:=decide (v.epoch <= 4611686018427387903) && (coversT v.covers.l 38 && (thingsT v && !v.policies.l.any fun p=>!polMay p))
end Go.Proofs.YtmahnnnccohccaaGreat
namespace Go.Proofs.YtmahnnnccohccaaGreat
section
variable {E:Calls'} {T:FuncId -> Option QF} {val:FuncId -> Bool}
theorem S_notC {id:FuncId} {z:Nat} (ht:T id = some (notQ z)) (hv:val id = false) {c:List D} (hc:c.length = z) {f:FuncId} {caps:List V} {x:Nat} {p:Bool} {h:Hp} (hp:getB h.bs x = some [.fn f caps])
 (hf:∀ ys lo,Sm E T val f (ag c :: caps) ⟨h.bs ++ ys,lo⟩ = some (bl p,⟨h.bs ++ ys,lo⟩)):Sm E T val id [ag c,.ptr x 0] h = some (bl (!p),h):=by
 rw [Sm_ref ht hv]
 have hs:=sub_c hc
 simp [notQ,Bd_mk,getB_of hp,hf,hs,V.under]
def KeptR {α:Type} (cells:α -> List D) (z n:Nat) (nl:Bool) (l:List α) (bs:List Blk) (v:V):Prop :=
 (nl = true /\ l = [] /\ v = .d (.slice true [])) \/ (nl = false /\ ∃ B cap rest,n <= B /\ v = .row B 0 l.length cap z /\ getB bs B = some (flat (l.map cells) ++ rest))
theorem KeptR.dat {α:Type} {cells:α -> List D} {z n:Nat} {nl:Bool} {l:List α} {bs:List Blk} {v:V} (hz:∀ x,(cells x).length = z) (h:KeptR cells z n nl l bs v) (lo k:Nat):dataV ⟨bs,lo⟩ (k + 1) v = some (.slice nl (l.map cells)):=by
 rcases h with ⟨rfl,rfl,rfl⟩ | ⟨rfl,B,cap,rest,_,rfl,h⟩
 · rfl
 · exact dataV_row (by simp; intro a _; exact hz a) (by simp) h
theorem KeptR.like {α:Type} {cells:α -> List D} {z n:Nat} {nl:Bool} {l:List α} {bs bs':List Blk} {v:V} (h:KeptR cells z n nl l bs v) (ho:∀ x cs,n <= x -> getB bs x = some cs -> getB bs' x = some cs):KeptR cells z n nl l bs' v:=by
 rcases h with ⟨h1,h2,h3⟩ | ⟨h1,B,cap,rest,h2,h3,h4⟩
 · exact .inl ⟨h1,h2,h3⟩
 · exact .inr ⟨h1,B,cap,rest,h2,h3,ho B _ h2 h4⟩
theorem KeptR.nu {α:Type} {cells:α -> List D} {z n:Nat} {nl:Bool} {l:List α} {bs:List Blk} {v:V} (h:KeptR cells z n nl l bs v):Go.Proofs.YtmahnnnccohccaaGreat.nu v = some v /\ okV v = true:=by
 rcases h with ⟨_,_,rfl⟩ | ⟨_,B,cap,rest,_,rfl,_⟩ <;> exact ⟨rfl,rfl⟩
end
end Go.Proofs.YtmahnnnccohccaaGreat
