/- What config.May calls: policy.target from an instance of its own. -/
import Derived.Test.YthkeklemhcfbcaaGreatWa
import Derived.Test.YthkeklemhcfbcaaGreatSa
import Derived.Test.YthkeklemhcfbcaaGreatCp
import Derived.Test.YthkeklemhcfbcaaGreatKa
import Derived.Test.YthkeklemhcfbcaaGreatUt
set_option maxRecDepth 100000
set_option linter.unusedVariables false
namespace Go.Proofs.YthkeklemhcfbcaaGreat
def noE:Calls':=fun _ _ _=>none
noncomputable def Et:Calls':=fun f args h=>match Nat.beq f 163 with
 | true=>Sm E1 TP valP f args h
 | false=>none
end Go.Proofs.YthkeklemhcfbcaaGreat
namespace Go.Proofs.YthkeklemhcfbcaaGreat
noncomputable def EB1:Calls':=fun f args h=>Sm Et TT valT f args h
theorem EB1_404 (x:Int) (h:Hp):EB1 99 [.d (u64 x)] h = some (.d (i64 (grpT x)),h):=S363 (E:=Et) x h
theorem Et_385 (t:Target) (ht:t.wf big) (h:Hp):Et 163 [ag t.c] h = some (bl (targetMay t),h):=S385 t ht h
theorem EB1_378 (p:Pol) (hp:p.wf big) (h:Hp) (v:V) (hv:frz h v = some (ag p.c)):EB1 60 [v] h = some (bl (polMay p),h):=val_frz (T:=TT) (val:=valT) t263 v263 (fun h=>S263 (E:=Et) Et_385 p hp h) hv
theorem EB1_91 (c:Cfg) (hc:c.wf 1048576) (hcb:c.wf big) (h:Hp) (v:V) (hv:frz h v = some (ag c.c)):EB1 8 [v] h = some (bl (cfgMay c),h):=val_frz (T:=TT) (val:=valT) t41 v41 (fun h=>S41 (E:=Et) Et_385 c hc hcb h) hv
theorem EB1_129 (c:Cfg) (hcb:c.wf big) (hp:∀ p ∈ c.policies.l,polMay p = true) (hl:(bytesE c).length <= big) (h:Hp):EB1 31 [c.v] h = some (.d (bytesD (bytesE c)),h):=S94 (E:=Et) Et_385 c hcb hp hl h
noncomputable def EB2:Calls':=fun f args h=>match Nat.beq f 5,Nat.beq f 6 || Nat.beq f 7,Nat.beq f 9 with
 | true,_,_=>known 5 true f args h
 | false,true,_=>Sm EB1 TRd valRd f args h
 | false,false,true=>Sm noE TA valA f args h
 | false,false,false=>EB1 f args h
theorem EB2_H:BackH EB2 where
 h31 c hc:=S31 (E:=Et) c hc
 h33 h:=by show known 5 true 5 [] h = _; simp [known]
 h91 c hc hcb h:=S41 (E:=Et) Et_385 c hc hcb h
 h89 c hc hcb h:=S89 (E:=EB1) (fun c hc hcb h=>S41 (E:=Et) Et_385 c hc hcb h) (fun c hcb hp hl h=>EB1_129 c hcb hp hl h) c hc hcb h
 h94 nl l hb hl h:=D94 (E:=EB1) EB1_404 EB1_378 EB1_91 hb hl h
 h93 a b ha h:=S126 (E:=noE) a b ha h
end Go.Proofs.YthkeklemhcfbcaaGreat
