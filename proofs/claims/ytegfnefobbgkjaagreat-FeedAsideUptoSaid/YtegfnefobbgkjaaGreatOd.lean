/- view.Of: its closures. -/
import Derived.Test.YtegfnefobbgkjaaGreatOa
import Derived.Test.YtegfnefobbgkjaaGreatF64
import Derived.KernelRfl
import Derived.Test.YtegfnefobbgkjaaGreatCp
import Derived.Test.YtegfnefobbgkjaaGreatTa
import Derived.Test.YtegfnefobbgkjaaGreatQt
import Derived.Test.YtegfnefobbgkjaaGreatVa
set_option maxRecDepth 100000
set_option linter.unusedVariables false
set_option linter.unusedSimpArgs false
namespace Go.Proofs.YtegfnefobbgkjaaGreat
def tabV:List (Nat × QF):=[(30,q64),(21,q67),(188,q100),(206,q103),(132,q105),(38,q106),(127,q109),(52,q128),(53,q129),(55,q130),(57,q131),(58,q132),(59,q133),(60,q134),(18,q135),(63,q138),(64,q139),(65,q140),(66,q141),(67,q142),(68,q143),(69,q144),(70,q145),(71,q146),(72,q147),(73,q148),(74,q149),(75,q150),(32,q154),(39,q186),(40,q187),(82,q188),(129,q239),(133,q242),(134,q243),(135,q244),(136,q245),(137,q246),(138,q247),(139,q248),(140,q249),(78,q250),(79,q251),(219,q339)]
def TV:FuncId -> Option QF:=lookT tabV
def valV (f:FuncId):Bool:=[30,21,32,78].any fun n=>Nat.beq n f
theorem vc64:TV 30 = some (q64):=by kernel_rfl
theorem vd64:valV 30 = true:=by kernel_rfl
theorem vc67:TV 21 = some (q67):=by kernel_rfl
theorem vd67:valV 21 = true:=by kernel_rfl
theorem vc100:TV 188 = some (idxQ 7):=by kernel_rfl
theorem vd100:valV 188 = false:=by kernel_rfl
theorem vc103:TV 206 = some (idxQ 5):=by kernel_rfl
theorem vd103:valV 206 = false:=by kernel_rfl
theorem vc105:TV 132 = some (delQ 7 188 [(.d (.int .u64 0)),(.d (.str ⟨#[]⟩)),(.d (.str ⟨#[]⟩)),(.d (.int .i64 0)),(.d (.int .u32 0)),(.d (.int .i64 0)),(.d (.int .u64 0))]):=by kernel_rfl
theorem vd105:valV 132 = false:=by kernel_rfl
theorem vc106:TV 38 = some (cloneQ 7 72 [(.d (.int .u64 0)),(.d (.str ⟨#[]⟩)),(.d (.str ⟨#[]⟩)),(.d (.int .i64 0)),(.d (.int .u32 0)),(.d (.int .i64 0)),(.d (.int .u64 0))]):=by kernel_rfl
theorem vd106:valV 38 = false:=by kernel_rfl
theorem vc109:TV 127 = some (idxQ 2):=by kernel_rfl
theorem vd109:valV 127 = false:=by kernel_rfl
theorem vc128:TV 52 = some (q128):=by kernel_rfl
theorem vd128:valV 52 = false:=by kernel_rfl
theorem vc129:TV 53 = some (q129):=by kernel_rfl
theorem vd129:valV 53 = false:=by kernel_rfl
theorem vc130:TV 55 = some (q130):=by kernel_rfl
theorem vd130:valV 55 = false:=by kernel_rfl
theorem vc131:TV 57 = some (q131):=by kernel_rfl
theorem vd131:valV 57 = false:=by kernel_rfl
theorem vc132:TV 58 = some (someQ 129):=by kernel_rfl
theorem vd132:valV 58 = false:=by kernel_rfl
theorem vc133:TV 59 = some (q133):=by kernel_rfl
theorem vd133:valV 59 = false:=by kernel_rfl
theorem vc134:TV 60 = some (q134):=by kernel_rfl
theorem vd134:valV 60 = false:=by kernel_rfl
theorem vc135:TV 18 = some (cloneQ 1 4 [(.d (.int .u32 0))]):=by kernel_rfl
theorem vd135:valV 18 = false:=by kernel_rfl
theorem vc138:TV 63 = some (keepQ 38 133 132):=by kernel_rfl
theorem vd138:valV 63 = false:=by kernel_rfl
theorem vc139:TV 64 = some (q139):=by kernel_rfl
theorem vd139:valV 64 = false:=by kernel_rfl
theorem vc140:TV 65 = some (q140):=by kernel_rfl
theorem vd140:valV 65 = false:=by kernel_rfl
theorem vc141:TV 66 = some (keepQ 39 135 134):=by kernel_rfl
theorem vd141:valV 66 = false:=by kernel_rfl
theorem vc142:TV 67 = some (q142):=by kernel_rfl
theorem vd142:valV 67 = false:=by kernel_rfl
theorem vc143:TV 68 = some (someQ 136):=by kernel_rfl
theorem vd143:valV 68 = false:=by kernel_rfl
theorem vc144:TV 69 = some (q144):=by kernel_rfl
theorem vd144:valV 69 = false:=by kernel_rfl
theorem vc145:TV 70 = some (keepQ 40 138 137):=by kernel_rfl
theorem vd145:valV 70 = false:=by kernel_rfl
theorem vc146:TV 71 = some (q146):=by kernel_rfl
theorem vd146:valV 71 = false:=by kernel_rfl
theorem vc147:TV 72 = some (q147):=by kernel_rfl
theorem vd147:valV 72 = false:=by kernel_rfl
theorem vc148:TV 73 = some (keepQ 82 140 139):=by kernel_rfl
theorem vd148:valV 73 = false:=by kernel_rfl
theorem vc149:TV 74 = some (q149):=by kernel_rfl
theorem vd149:valV 74 = false:=by kernel_rfl
theorem vc150:TV 75 = some (q150):=by kernel_rfl
theorem vd150:valV 75 = false:=by kernel_rfl
theorem vc154:TV 32 = some (q154):=by kernel_rfl
theorem vd154:valV 32 = true:=by kernel_rfl
theorem vc186:TV 39 = some (cloneQ 5 48 [(.d (.int .u64 0)),(.d (.str ⟨#[]⟩)),(.d (.int .u32 0)),(.d (.int .i64 0)),(.d (.int .u64 0))]):=by kernel_rfl
theorem vd186:valV 39 = false:=by kernel_rfl
theorem vc187:TV 40 = some (cloneQ 2 16 [(.d (.int .u64 0)),(.d (.int .i64 0))]):=by kernel_rfl
theorem vd187:valV 40 = false:=by kernel_rfl
theorem vc188:TV 82 = some (cloneQ 5 64 [(.d (.int .u64 0)),(.d (.str ⟨#[]⟩)),(.d (.int .u64 0)),(.d (.int .i64 0)),(.d (.slice true []))]):=by kernel_rfl
theorem vd188:valV 82 = false:=by kernel_rfl
theorem vc239:TV 129 = some (anyQ 206):=by kernel_rfl
theorem vd239:valV 129 = false:=by kernel_rfl
theorem vc242:TV 133 = some (notQ 7):=by kernel_rfl
theorem vd242:valV 133 = false:=by kernel_rfl
theorem vc243:TV 134 = some (delQ 5 206 [(.d (.int .u64 0)),(.d (.str ⟨#[]⟩)),(.d (.int .u32 0)),(.d (.int .i64 0)),(.d (.int .u64 0))]):=by kernel_rfl
theorem vd243:valV 134 = false:=by kernel_rfl
theorem vc244:TV 135 = some (notQ 5):=by kernel_rfl
theorem vd244:valV 135 = false:=by kernel_rfl
theorem vc245:TV 136 = some (anyQ 188):=by kernel_rfl
theorem vd245:valV 136 = false:=by kernel_rfl
theorem vc246:TV 137 = some (delQ 2 127 [(.d (.int .u64 0)),(.d (.int .i64 0))]):=by kernel_rfl
theorem vd246:valV 137 = false:=by kernel_rfl
theorem vc247:TV 138 = some (notQ 2):=by kernel_rfl
theorem vd247:valV 138 = false:=by kernel_rfl
theorem vc248:TV 139 = some (delQ 5 219 [(.d (.int .u64 0)),(.d (.str ⟨#[]⟩)),(.d (.int .u64 0)),(.d (.int .i64 0)),(.d (.slice true []))]):=by kernel_rfl
theorem vd248:valV 139 = false:=by kernel_rfl
theorem vc249:TV 140 = some (notQ 5):=by kernel_rfl
theorem vd249:valV 140 = false:=by kernel_rfl
theorem vc250:TV 78 = some (q250):=by kernel_rfl
theorem vd250:valV 78 = true:=by kernel_rfl
theorem vc251:TV 79 = some (q251):=by kernel_rfl
theorem vd251:valV 79 = false:=by kernel_rfl
theorem vc339:TV 219 = some (idxQ 5):=by kernel_rfl
theorem vd339:valV 219 = false:=by kernel_rfl
theorem vc41:TV 44 = none:=by kernel_rfl
theorem vc45:TV 56 = none:=by kernel_rfl
theorem vc52:TV 76 = none:=by kernel_rfl
theorem vc90:TV 45 = none:=by kernel_rfl
theorem vc117:TV 54 = none:=by kernel_rfl
theorem vc136:TV 61 = none:=by kernel_rfl
theorem vc137:TV 62 = none:=by kernel_rfl
def Scp.c (x:Scp):List D:=[i64 x.node,x.addrs.d u32C]
@[simp] theorem Scp.len {x:Scp}:x.c.length = 2:=(rfl)
@[simp] theorem Scp.all {x:Scp}:sub x.c 0 2 = some x.c:=(rfl)
@[simp] theorem Scp.s0_1 {x:Scp}:sub x.c 0 1 = some [i64 x.node]:=(rfl)
@[simp] theorem Scp.s1_1 {x:Scp}:sub x.c 1 1 = some [x.addrs.d u32C]:=(rfl)
theorem getB_at1 {bs ys:List Blk}:getB (bs ++ ys) (bs.length + 1) = getB ys 1:=by
 unfold getB; rw [List.getElem?_append_right (by omega)]; simp
structure OfE (c:Cfg) (s:Scp) (bs:List Blk):Prop where
 b0:getB bs 0 = some (c.c.map .d)
 b1:getB bs 1 = some (s.c.map .d)
 b3:getB bs 3 = some [.fn 52 [.ptr 1 0]]
 b4:getB bs 4 = some [.fn 53 [.ptr 1 0]]
 b5:getB bs 5 = some [.fn 55 [.ptr 0 0,.ptr 3 0]]
 b6:getB bs 6 = some [.fn 57 [.ptr 0 0]]
 b7:getB bs 7 = some [.fn 60 [.ptr 1 0,.ptr 6 0,.ptr 5 0]]
theorem OfE.lay {c:Cfg} {s:Scp} {bs:List Blk} (h:OfE c s bs) (ys:List Blk):OfE c s (bs ++ ys) :=
 ⟨getB_of h.b0,getB_of h.b1,getB_of h.b3,getB_of h.b4,getB_of h.b5,getB_of h.b6,getB_of h.b7⟩
theorem OfE.like {c:Cfg} {s:Scp} {bs bs':List Blk} (h:OfE c s bs) (ho:∀ x,x < 8 -> bs'[x]? = bs[x]?):OfE c s bs':=by
 have g:∀ x cs,x < 8 -> getB bs x = some cs -> getB bs' x = some cs:=fun x cs hx hg=>by
  unfold getB at hg ⊢; rw [ho x hx]; exact hg
 exact ⟨g _ _ (by decide) h.b0,g _ _ (by decide) h.b1,g _ _ (by decide) h.b3,g _ _ (by decide) h.b4,g _ _ (by decide) h.b5,g _ _ (by decide) h.b6,g _ _ (by decide) h.b7⟩
section
variable {E:Calls'} (h45:∀ c:Cfg,c.ok -> ∀ n h,E 56 [c.v,.d (u64 n)] h = some (.tup (match wayT c n with | some w=>[w.v,bl true] | none=>[way0.v,bl false]),h))
 (h117:∀ s:Sl Int,short s -> ∀ n h,E 54 [.d (s.d u32C),.d (u32 n)] h = some (bl (hasT s.l n),h))
 (h52:∀ (p:Pol) (x:Pod) h,E 76 [p.v,x.v] h = some (bl (holdsT p x.ns x.service),h))
variable {c:Cfg} {s:Scp}
theorem V128 {h:Hp} (hE:OfE c s h.bs) (w:Way):Sm E TV valV 52 [ag w.c,.ptr 1 0] h = some (bl (w.node == s.node),h):=by
 rw [Sm_ref vc128 vd128]
 simp [Bd_mk,q128,getB_of hE.b1,V.under,Way.c]
include h117 in
theorem V129 {h:Hp} (hE:OfE c s h.bs) (hs:short s.addrs) (a:Int):Sm E TV valV 53 [.d (u32 a),.ptr 1 0] h = some (bl (hasT s.addrs.l a),h):=by
 have m:∀ h,Sm E TV valV 54 [.d (s.addrs.d u32C),.d (u32 a)] h = some (bl (hasT s.addrs.l a),h):=fun h=>by rw [Sm_ext vc117]; exact h117 _ hs a h
 rw [Sm_ref vc129 vd129]
 simp [Bd_mk,q129,hE.b1,m,V.under]
include h45 in
theorem V130 {h:Hp} (hE:OfE c s h.bs) (hc:c.ok) (x:Svc):Sm E TV valV 55 [ag x.c,.ptr 0 0,.ptr 3 0] h = some (bl (bndT c s.node x),h):=by
 have m:=h45 c hc x.id
 have mm:∀ h,Sm E TV valV 56 [c.v,.d (u64 x.id)] h = E 56 [c.v,.d (u64 x.id)] h:=fun h=>by rw [Sm_ext vc45]
 have k:=fun w ys lo=>V128 (E:=E) (h:=⟨h.bs ++ ys,lo⟩) (hE.lay ys) w
 rw [Sm_ref vc130 vd130]
 unfold bndT
 have hw:∀ w:Way,w.c.map V.d ++ List.drop 2 [V.d (D.int .u64 0),.d (.int .i64 0)] = w.c.map V.d:=fun _=>rfl
 cases hx:wayT c x.id with
 | none =>
  rw [hx] at m
  simp (decide:=true) [Bd_mk,q130,getB_of hE.b0,mm,m,openA,opDE_call,noTr,opsA_if,V.under]
 | some w =>
  rw [hx] at m
  simp (decide:=true) [Bd_mk,q130,getB_of hE.b0,getB_of hE.b3,mm,m,hw,k,openA,opDE_call,noTr,opsA_if,V.under]
theorem V133 {h:Hp} {x:Svc} {p:Pod} {P Q:Nat} {f:FuncId} {caps:List V} {so:Svc -> Bool} (hP:getB h.bs P = some (p.c.map .d)) (hQ:getB h.bs Q = some [.fn f caps])
 (hso:∀ ys lo,Sm E TV valV f (ag x.c :: caps) ⟨h.bs ++ ys,lo⟩ = some (bl (so x),⟨h.bs ++ ys,lo⟩)):Sm E TV valV 59 [ag x.c,.ptr P 0,.ptr Q 0] h = some (bl (x.id == p.service && so x),h):=by
 rw [Sm_ref vc133 vd133]
 cases e:(x.id == p.service) <;> simp (decide:=true) [Bd_mk,q133,getB_of hP,getB_of hQ,hso,e,openA,opDE_call,noTr,opsA_if,V.under]
theorem V131 {h:Hp} (hE:OfE c s h.bs) (hc:c.ok) {p:Pod} {f:FuncId} {caps:List V} {so:Svc -> Bool}
 (hso:∀ x ∈ c.services.l,∀ ys lo,Sm E TV valV f (ag x.c :: caps) ⟨h.bs ++ ys,lo⟩ = some (bl (so x),⟨h.bs ++ ys,lo⟩)):Sm E TV valV 57 [ag p.c,.fn f caps,.ptr 0 0] h = some (bl (ofSvc c p so),h):=by
 rw [Sm_ref vc131 vd131]
 have hany:∀ lo,Sm E TV valV 58 [.d (c.services.d Svc.c),.fn 59 [.ptr h.bs.length 0,.ptr (h.bs.length + 1) 0]] ⟨h.bs ++ [.cells (p.c.map .d),.cells [.fn f caps]],lo⟩ = some (bl (ofSvc c p so),⟨h.bs ++ [.cells (p.c.map .d),.cells [.fn f caps]],lo⟩):=fun lo =>
  S_some (E:=E) (T:=TV) (val:=valV) vc132 vd132 rfl rfl (S_any (E:=E) Svc.c (z:=5) vc103 vd103 vc239 vd239 (RowIs.of (cells:=Svc.c) (fun _=>rfl) _) hc.2.1.lt fun e he lo2=>V133 (p:=p) (f:=f) (caps:=caps) (so:=so) (by simp) (by simp [getB_at1]) (fun ys lo3=>by
   have:=hso e he ([.cells (p.c.map .d),.cells [.fn f caps]] ++ ys) lo3
   simpa using this))
 simp (decide:=true) [Bd_mk,q131,getB_of hE.b0,hany,V.under]
end
end Go.Proofs.YtegfnefobbgkjaaGreat
namespace Go.Proofs.YtegfnefobbgkjaaGreat
theorem RowIs.lay {bs:List Blk} {v:V} {z:Nat} {es:List (List D)} (h:RowIs bs v z es) (ys:List Blk):RowIs (bs ++ ys) v z es:=by
 refine ⟨h.1,?_⟩
 rcases h.2 with h1 | ⟨b,o,cap,cs,h1,h2,h3⟩
 · exact .inl h1
 · exact .inr ⟨b,o,cap,cs,h1,getB_of h2,h3⟩
section
variable {E:Calls'} (h45:∀ c:Cfg,c.ok -> ∀ n h,E 56 [c.v,.d (u64 n)] h = some (.tup (match wayT c n with | some w=>[w.v,bl true] | none=>[way0.v,bl false]),h))
 (h117:∀ s:Sl Int,short s -> ∀ n h,E 54 [.d (s.d u32C),.d (u32 n)] h = some (bl (hasT s.l n),h))
 (h52:∀ (p:Pol) (x:Pod) h,E 76 [p.v,x.v] h = some (bl (holdsT p x.ns x.service),h))
variable {c:Cfg} {s:Scp}
include h45 in
theorem V134 {h:Hp} (hE:OfE c s h.bs) (hc:c.ok) (p:Pod):Sm E TV valV 60 [ag p.c,.ptr 1 0,.ptr 6 0,.ptr 5 0] h = some (bl (ownT c s.node p),h):=by
 have m:∀ ys lo,Sm E TV valV 57 [ag p.c,.fn 55 [.ptr 0 0,.ptr 3 0],.ptr 0 0] ⟨h.bs ++ ys,lo⟩ = some (bl (ofSvc c p (bndT c s.node)),⟨h.bs ++ ys,lo⟩):=fun ys lo =>
  V131 (h:=⟨h.bs ++ ys,lo⟩) (hE.lay ys) hc fun x _ zs lo2=>V130 h45 (h:=⟨h.bs ++ ys ++ zs,lo2⟩) ((hE.lay ys).lay zs) hc x
 rw [Sm_ref vc134 vd134]
 unfold ownT
 cases e:(p.host == s.node) <;> simp (decide:=true) [Bd_mk,q134,getB_of hE.b1,getB_of hE.b5,getB_of hE.b6,e,m,openA,opDE_call,noTr,opsA_if,V.under]
include h117 in
theorem V140 {h:Hp} (hE:OfE c s h.bs) (hs:short s.addrs) (x:Svc):Sm E TV valV 65 [ag x.c,.ptr 4 0] h = some (bl (hasT s.addrs.l x.addr),h):=by
 have m:=fun ys lo=>V129 (E:=E) h117 (h:=⟨h.bs ++ ys,lo⟩) (hE.lay ys) hs x.addr
 rw [Sm_ref vc140 vd140]
 simp [Bd_mk,q140,getB_of hE.b4,m,V.under]
include h45 h117 in
theorem V139 {h:Hp} (hE:OfE c s h.bs) (hc:c.ok) (hs:short s.addrs) (p:Pod):Sm E TV valV 64 [ag p.c,.ptr 7 0,.ptr 4 0,.ptr 6 0] h = some (bl (podIn c s p),h):=by
 have m1:=fun ys lo=>V134 (E:=E) h45 (h:=⟨h.bs ++ ys,lo⟩) (hE.lay ys) hc p
 have m2:=fun ys lo=>V129 (E:=E) h117 (h:=⟨h.bs ++ ys,lo⟩) (hE.lay ys) hs p.addr
 have m3:∀ ys lo,Sm E TV valV 57 [ag p.c,.fn 65 [.ptr 4 0],.ptr 0 0] ⟨h.bs ++ ys,lo⟩ = some (bl (ofSvc c p fun x=>hasT s.addrs.l x.addr),⟨h.bs ++ ys,lo⟩):=fun ys lo =>
  V131 (h:=⟨h.bs ++ ys,lo⟩) (hE.lay ys) hc fun x _ zs lo2=>V140 h117 (h:=⟨h.bs ++ ys ++ zs,lo2⟩) ((hE.lay ys).lay zs) hs x
 rw [Sm_ref vc139 vd139]
 unfold podIn
 cases e1:ownT c s.node p <;> cases e2:hasT s.addrs.l p.addr <;> simp (decide:=true) [Bd_mk,q139,getB_of hE.b4,getB_of hE.b6,getB_of hE.b7,e1,e2,m1,m2,m3,openA,opDE_call,noTr,opsA_if,V.under]
theorem V144 {h:Hp} {x:Svc} {P:Nat} (hP:getB h.bs P = some (x.c.map .d)) (p:Pod):Sm E TV valV 69 [ag p.c,.ptr P 0] h = some (bl (p.service == x.id),h):=by
 rw [Sm_ref vc144 vd144]
 simp (decide:=true) [Bd_mk,q144,getB_of hP,V.under]
def vcells (e:Int) (v1 v2 v3 v4 v5:V):List V:=[.d (u64 e),v1,v2,v3,v4,v5]
include h45 h117 in
theorem V142 {h:Hp} (hE:OfE c s h.bs) (hc:c.ok) (hs:short s.addrs) {e:Int} {v1 v2 v3 v4 v5:V} {D:Nat} (hD:getB h.bs D = some (vcells e v1 v2 v3 v4 v5)) {l:List Pod} (hl:l.length < 2 ^ 62) (hr:RowIs h.bs v2 7 (l.map Pod.c)) (x:Svc) :
 Sm E TV valV 67 [ag x.c,.ptr 4 0,.ptr 5 0,.ptr D 0] h = some (bl (hasT s.addrs.l x.addr || (bndT c s.node x || l.any fun p=>p.service == x.id)),h):=by
 have m1:=fun ys lo=>V129 (E:=E) h117 (h:=⟨h.bs ++ ys,lo⟩) (hE.lay ys) hs x.addr
 have m2:=fun ys lo=>V130 (E:=E) h45 (h:=⟨h.bs ++ ys,lo⟩) (hE.lay ys) hc x
 have m3:∀ lo,Sm E TV valV 68 [v2,.fn 69 [.ptr h.bs.length 0]] ⟨h.bs ++ [.cells (x.c.map .d)],lo⟩ = some (bl (l.any fun p=>p.service == x.id),⟨h.bs ++ [.cells (x.c.map .d)],lo⟩):=fun lo =>
  S_some (E:=E) (T:=TV) (val:=valV) vc143 vd143 hr.ok hr.okv (S_any (E:=E) Pod.c (z:=7) vc100 vd100 vc245 vd245 (hr.lay _) hl fun e he lo2=>V144 (by simp) e)
 rw [Sm_ref vc142 vd142]
 have hd:sub (vcells e v1 v2 v3 v4 v5) 2 1 = some [v2]:=rfl
 cases e1:hasT s.addrs.l x.addr <;> cases e2:bndT c s.node x <;> simp (decide:=true) [Bd_mk,q142,getB_of hE.b4,getB_of hE.b5,getB_of hD,hd,e1,e2,m1,m2,m3,openA,opDE_call,noTr,opsA_if,V.under,hr.ok,hr.okv]
theorem V147 {h:Hp} {w:Way} {P:Nat} (hP:getB h.bs P = some (w.c.map .d)) (x:Svc):Sm E TV valV 72 [ag x.c,.ptr P 0] h = some (bl (x.way == w.id),h):=by
 rw [Sm_ref vc147 vd147]
 simp (decide:=true) [Bd_mk,q147,getB_of hP,V.under]
theorem V146 {h:Hp} (hE:OfE c s h.bs) {e:Int} {v1 v2 v3 v4 v5:V} {D:Nat} (hD:getB h.bs D = some (vcells e v1 v2 v3 v4 v5)) {l:List Svc} (hl:l.length < 2 ^ 62) (hr:RowIs h.bs v3 5 (l.map Svc.c)) (w:Way) :
 Sm E TV valV 71 [ag w.c,.ptr 3 0,.ptr D 0] h = some (bl (w.node == s.node || l.any fun x=>x.way == w.id),h):=by
 have m1:=fun ys lo=>V128 (E:=E) (h:=⟨h.bs ++ ys,lo⟩) (hE.lay ys) w
 have m3:∀ lo,Sm E TV valV 58 [v3,.fn 72 [.ptr h.bs.length 0]] ⟨h.bs ++ [.cells (w.c.map .d)],lo⟩ = some (bl (l.any fun x=>x.way == w.id),⟨h.bs ++ [.cells (w.c.map .d)],lo⟩):=fun lo =>
  S_some (E:=E) (T:=TV) (val:=valV) vc132 vd132 hr.ok hr.okv (S_any (E:=E) Svc.c (z:=5) vc103 vd103 vc239 vd239 (hr.lay _) hl fun e he lo2=>V147 (by simp) e)
 rw [Sm_ref vc146 vd146]
 have hd:sub (vcells e v1 v2 v3 v4 v5) 3 1 = some [v3]:=rfl
 cases e1:(w.node == s.node) <;> simp (decide:=true) [Bd_mk,q146,getB_of hE.b3,getB_of hD,hd,e1,m1,m3,openA,opDE_call,noTr,opsA_if,V.under,hr.ok,hr.okv]
include h45 h52 in
theorem V150 {h:Hp} (hE:OfE c s h.bs) (hc:c.ok) {p:Pol} {P:Nat} (hP:getB h.bs P = some (p.c.map .d)) (x:Pod):Sm E TV valV 75 [ag x.c,.ptr 7 0,.ptr P 0] h = some (bl (ownT c s.node x && holdsT p x.ns x.service),h):=by
 have m1:=fun ys lo=>V134 (E:=E) h45 (h:=⟨h.bs ++ ys,lo⟩) (hE.lay ys) hc x
 have m2:∀ h,Sm E TV valV 76 [ag p.c,ag x.c] h = some (bl (holdsT p x.ns x.service),h):=fun h=>by rw [Sm_ext vc52]; exact h52 p x h
 rw [Sm_ref vc150 vd150]
 cases e1:ownT c s.node x <;> simp (decide:=true) [Bd_mk,q150,getB_of hE.b7,getB_of hP,e1,m1,m2,openA,opDE_call,noTr,opsA_if,V.under]
include h45 h52 in
theorem V149 {h:Hp} (hE:OfE c s h.bs) (hc:c.ok) (p:Pol):Sm E TV valV 74 [ag p.c,.ptr 0 0,.ptr 7 0] h = some (bl (polIn c s.node p),h):=by
 have m3:∀ lo,Sm E TV valV 68 [.d (c.pods.d Pod.c),.fn 75 [.ptr 7 0,.ptr h.bs.length 0]] ⟨h.bs ++ [.cells (p.c.map .d)],lo⟩ = some (bl (polIn c s.node p),⟨h.bs ++ [.cells (p.c.map .d)],lo⟩):=fun lo =>
  S_some (E:=E) (T:=TV) (val:=valV) vc143 vd143 rfl rfl (S_any (E:=E) Pod.c (z:=7) vc100 vd100 vc245 vd245 (RowIs.of (cells:=Pod.c) (fun _=>rfl) _) hc.1.lt fun e he lo2=>by
  have k:=V150 (E:=E) h45 h52 (s:=s) (p:=p) (P:=h.bs.length) (h:=⟨h.bs ++ [.cells (p.c.map .d)],lo2⟩) (hE.lay [.cells (p.c.map .d)]) hc (by simp) e
  exact k)
 rw [Sm_ref vc149 vd149]
 simp (decide:=true) [Bd_mk,q149,getB_of hE.b0,m3,V.under]
end
end Go.Proofs.YtegfnefobbgkjaaGreat
namespace Go.Proofs.YtegfnefobbgkjaaGreat
abbrev Scp.v (x:Scp):V:=ag x.c
section
variable {E:Calls'}
theorem V251 (a:Int) (h:Hp):Sm E TV valV 79 [.d (u32 a)] h = some (.d (u32 a),h):=by
 rw [Sm_ref vc251 vd251]
 simp [Bd_mk,q251,V.under]
theorem ix_u32 {s:Sl Int} {i:Nat} (hi:i < s.l.length) {kd:IntKind} {h:Hp}:idxv none 1 (.d (s.d u32C)) (.d (.int kd i)) h = some (.eptr (u32C s.l[i]) 0,h) :=
 ix_data (cells:=u32C) (fun _=>rfl) hi
theorem L250 {s:Sl Int} (hs:s.l.length < 2 ^ 62) (most:Int):∀ (m i:Nat),i + m = s.l.length -> 1 <= i →
 Cd E TV valV (.loop [0,1,2,9,10] q250_b0) [(0,.d (s.d u32C)),(1,.d (i64 most)),(2,.fn 79 []),(9,.d (i64 s.l.length)),(10,.d (i64 i))] ⟨[],0⟩ =
  if risesL (s.l.drop (i - 1)) then some (.exit 0,[(0,.d (s.d u32C)),(1,.d (i64 most))],⟨[],0⟩) else some (.ret,[(6,bl false)],⟨[],0⟩):=by
 intro m
 have key:=Cd_round (E:=E) (T:=TV) (val:=valV) [0,1,2,9,10] q250_b0
 generalize Cd E TV valV (.loop [0,1,2,9,10] q250_b0) = W at key ⊢
 induction m with
 | zero =>
  intro i hi h1
  rw [key,risesL_end (by omega)]
  simp [q250_b0,show ¬ ((i:Int) < s.l.length) from by omega]
 | succ m ih =>
  intro i hi h1
  have hlt:i < s.l.length:=by omega
  have hd:=risesL_drop (l:=s.l) (i:=i - 1) (by omega)
  have hs1:i - 1 + 1 = i:=by omega
  simp only [hs1] at hd
  have hp1:=fun h=>ix_u32 hlt (kd:=.i64) (h:=h)
  have hp0:=fun h=>ix_u32 (show i - 1 < s.l.length by omega) (kd:=.i64) (h:=h)
  have c1:=V251 (E:=E)
  have hw:=int_next hlt hs
  have hwm:IntKind.wrap .i64 ((i:Int) - 1) = ((i - 1:Nat):Int):=by rw [wrap64] <;> omega
  have hpos:0 < i:=h1
  have hih:=ih (i + 1) (by omega) (by omega)
  simp only [show i + 1 - 1 = i by omega] at hih
  rw [key,hd]
  generalize s.l[i] = y at *
  generalize s.l[i - 1] = x at *
  by_cases hg:x < y
  · simp (decide:=true) [q250_b0,hp1,hp0,u32C,hwm,hw,hpos,c1,hlt,hg,openA,opDE_call,noTr,show ¬ (x >= y) from by omega]
    simpa using hih
  · simp (decide:=true) [q250_b0,hp1,hp0,u32C,hwm,hw,hpos,c1,hlt,hg,openA,opDE_call,noTr,show x >= y from by omega]
theorem V250 {s:Sl Int} (hs:s.l.length < 2 ^ 62) (most:Int) (h:Hp):Sm E TV valV 78 [.d (s.d u32C),.d (i64 most),.fn 79 []] h = some (bl (risesL s.l && decide ((s.l.length:Int) <= most)),h):=by
 rw [Sm_v vc250 vd250]
 have hfr:frz h (.fn 79 []) = some (.fn 79 []):=rfl
 have key:=Cd_round (E:=E) (T:=TV) (val:=valV) [0,1,2,9,10] q250_b0
 have hl:=L250 (E:=E) hs most
 simp [Bd_mk,q250,hfr]
 rw [Cd_keep]
 simp only [keepA_cons,keepA_nil]
 simp
 generalize Cd E TV valV (.loop [0,1,2,9,10] q250_b0) = W at key hl ⊢
 by_cases h0:s.l = []
 · rw [key]
   simp [q250_b0,h0,risesL,pureV]
 · have hpos:0 < s.l.length:=List.length_pos_iff.2 h0
   have h1:=hl (s.l.length - 1) 1 (by omega) (by omega)
   simp at h1
   rw [key]
   have hw:=int_next hpos hs
   simp at hw
   simp (decide:=true) [q250_b0,openA,noTr,hpos,hw,h1]
   cases risesL s.l <;> simp [pureV]
variable (h117:∀ s:Sl Int,short s -> ∀ n h,E 54 [.d (s.d u32C),.d (u32 n)] h = some (bl (hasT s.l n),h))
include h117
theorem V154 {s:Sl Int} (hs:short s) (most:Int) (h:Hp):Sm E TV valV 32 [.d (s.d u32C),.d (i64 most)] h = some (bl (coversT s.l most),h):=by
 have m:∀ h,Sm E TV valV 54 [.d (s.d u32C),.d (u32 0)] h = some (bl (hasT s.l 0),h):=fun h=>by rw [Sm_ext vc117]; exact h117 _ hs 0 h
 rw [Sm_v vc154 vd154]
 cases e:(risesL s.l && decide ((s.l.length:Int) <= most)) <;> simp (decide:=true) [Bd_mk,q154,V250 hs.lt most,m,e,coversT,openA,opDE_call,noTr,opsA_if]
theorem V67 {s:Scp} (hs:short s.addrs) (h:Hp):Sm E TV valV 21 [s.v] h = some (bl (scopeMay s),h):=by
 rw [Sm_v vc67 vd67]
 have hv:=fun h=>V154 (E:=E) h117 hs 32 h
 unfold scopeMay
 by_cases e1:s.node >= 2 <;> by_cases e2:s.node <= 9 <;> simp (decide:=true) [Bd_mk,q67,hv,e1,e2,openA,opDE_call,noTr,opsA_if,V.under]
end
end Go.Proofs.YtegfnefobbgkjaaGreat
namespace Go.Proofs.YtegfnefobbgkjaaGreat
abbrev nilV:V:=.d (.slice true [])
def base8 (c:Cfg) (s:Scp):List Blk:=[.cells (c.c.map .d),.cells (s.c.map .d),.cells [.d (.int .u64 0),nilV,nilV,nilV,nilV,nilV],.cells [.fn 52 [.ptr 1 0]],.cells [.fn 53 [.ptr 1 0]],.cells [.fn 55 [.ptr 0 0,.ptr 3 0]],.cells [.fn 57 [.ptr 0 0]],.cells [.fn 60 [.ptr 1 0,.ptr 6 0,.ptr 5 0]]]
theorem base_E {c:Cfg} {s:Scp}:OfE c s (base8 c s):=⟨rfl,rfl,rfl,rfl,rfl,rfl,rfl⟩
def u32s (l:List Int):List V:=l.map fun n=>.d (u32 n)
theorem u32_flat:∀ l:List Int,flat (l.map u32C) = u32s l
 | []=>rfl
 | x :: l=>by
  have:=u32_flat l
  simp only [flat,u32s] at this ⊢
  simp [u32C,this]
def CvR (D:Nat) (nl:Bool) (acc:List Int) (bs:List Blk) (v:V):Prop :=
 (nl = true /\ acc = [] /\ v = nilV) \/ (nl = false /\ ∃ b cap,8 <= b /\ b ≠ D /\ v = .row b 0 acc.length cap 1 /\ ((cap = none /\ acc ≠ []) \/ (cap = some 0 /\ acc = [])) /\ getB bs b = some (u32s acc))
structure Cv (c:Cfg) (s:Scp) (D:Nat) (nl:Bool) (acc:List Int) (bs:List Blk) (v:V):Prop where
 env:OfE c s bs
 b2:getB bs 2 = some [.d (.int .u64 0),nilV,nilV,nilV,nilV,nilV]
 d8:8 <= D
 d0:getB bs D = some (vcells c.epoch v nilV nilV nilV nilV)
 is:CvR D nl acc bs v
theorem put_v0 (e:Int) (v:V):put [V.d (.int .u64 0),nilV,nilV,nilV,nilV,nilV] 0 (vcells e v nilV nilV nilV nilV) = some (vcells e v nilV nilV nilV nilV):=rfl
def regV:List (List Nat) × List RO:=([[],[0],[],[2],[3,2],[1,0,4,3,2],[],[5,1,0,4,3,2,6]],[⟨none,some 30,.fldA (.t 2) 0⟩,⟨none,some 31,.load true 1 (.t 30)⟩,⟨none,some 32,.fldA (.t 3) 1⟩,⟨none,some 33,.load true 1 (.t 32)⟩,⟨none,some 34,.call (.c (.fn 18 [])) [.t 33]⟩,⟨none,some 35,.build [(.d (.int .u64 0)),(.d (.slice true [])),(.d (.slice true [])),(.d (.slice true [])),(.d (.slice true [])),(.d (.slice true []))] [(0,1,(.t 31)),(1,1,(.t 34))]⟩,⟨none,some 11,.new [(.d (.int .u64 0)),(.d (.slice true [])),(.d (.slice true [])),(.d (.slice true [])),(.d (.slice true [])),(.d (.slice true []))]⟩,⟨none,none,.store 6 (.t 11) (.t 35)⟩])
theorem Vpre {E:Calls'} {c:Cfg} {s:Scp} (hs:short s.addrs) (x29 x25 x26 x27 x28 x24 x23 x21 x20 x19 x18 x17 x16 x15 x14 x5 x4 x6 x7 x8 x9 x10 x0 x1:V) :
 ∃ D v bs x35 x33 x32 x31 x30,openA (Sm E TV valV) regV.1 regV.2 [(10,x10),(29,x29),(9,x9),(28,x28),(8,x8),(27,x27),(7,x7),(26,x26),(6,x6),(25,x25),(24,x24),(23,x23),(21,x21),(20,x20),(19,x19),(18,x18),(17,x17),(16,x16),(15,x15),(14,x14),(5,x5),(4,x4),(3,.ptr 1 0),(2,.ptr 0 0),(0,x0),(1,x1)] ⟨base8 c s,0⟩ =
  some ([(11,.ptr D 0),(35,x35),(34,v),(33,x33),(32,x32),(31,x31),(30,x30),(10,x10),(29,x29),(9,x9),(28,x28),(8,x8),(27,x27),(7,x7),(26,x26),(6,x6),(25,x25),(24,x24),(23,x23),(21,x21),(20,x20),(19,x19),(18,x18),(17,x17),(16,x16),(15,x15),(14,x14),(5,x5),(4,x4),(3,.ptr 1 0),(2,.ptr 0 0),(0,x0),(1,x1)],⟨bs,0⟩) /\ Cv c s D s.addrs.nl s.addrs.l bs v:=by
 have hcl:=fun h=>S_cloneR (E:=E) (T:=TV) (val:=valV) vc135 vd135 (by decide) (by decide) (nl:=s.addrs.nl) (es:=s.addrs.l.map u32C) (by simp [u32C]) (by simpa using hs.1) h
 have hd:s.addrs.d u32C = .slice s.addrs.nl (s.addrs.l.map u32C):=rfl
 have p0:=fun v=>put_v0 c.epoch v
 cases hnl:s.addrs.nl with
 | true =>
  have hl:=hs.2 hnl
  rw [hnl] at hcl hd
  simp [cloneR] at hcl
  refine ⟨8,nilV,base8 c s ++ [.cells (vcells c.epoch nilV nilV nilV nilV nilV)],.agg (vcells c.epoch (nilV) nilV nilV nilV nilV),.d (s.addrs.d u32C),.ptr 1 1,.d (u64 c.epoch),.ptr 0 0,?_,base_E.lay _,rfl,by decide,rfl,.inl ⟨rfl,hl,rfl⟩⟩
  simp (decide:=true) [regV,base8,hd,hcl,openA,opDE_call,noTr,vcells,fillsE,apartT,Tr.spares,List.range,List.range.loop]
 | false =>
  rw [hnl] at hcl hd
  cases hll:s.addrs.l with
  | nil =>
   rw [hll] at hcl hd
   simp [cloneR] at hcl hd
   refine ⟨9,.row 8 0 0 (some 0) 1,base8 c s ++ [.cells [],.cells (vcells c.epoch (.row 8 0 0 (some 0) 1) nilV nilV nilV nilV)],.agg (vcells c.epoch (.row 8 0 0 (some 0) 1) nilV nilV nilV nilV),.d (s.addrs.d u32C),.ptr 1 1,.d (u64 c.epoch),.ptr 0 0,?_,base_E.lay _,rfl,by decide,rfl,.inr ⟨rfl,8,some 0,by decide,by decide,rfl,.inr ⟨rfl,rfl⟩,rfl⟩⟩
   simp (decide:=true) [regV,base8,hd,hcl,openA,opDE_call,noTr,vcells,fillsE,apartT,Tr.spares,List.range,List.range.loop]
  | cons p l' =>
   have hc2:∀ bs lo,cloneR 1 false (s.addrs.l.map u32C) bs lo = (.row (bs.length + 1) 0 s.addrs.l.length none 1,⟨bs ++ [.cells [],.cells (u32s s.addrs.l)],lo⟩):=fun bs lo=>by
    rw [← u32_flat,hll]; simp [cloneR]
   simp only [hc2] at hcl
   rw [← hll]
   refine ⟨10,.row 9 0 s.addrs.l.length none 1,base8 c s ++ [.cells [],.cells (u32s s.addrs.l),.cells (vcells c.epoch (.row 9 0 s.addrs.l.length none 1) nilV nilV nilV nilV)],.agg (vcells c.epoch (.row 9 0 s.addrs.l.length none 1) nilV nilV nilV nilV),.d (s.addrs.d u32C),.ptr 1 1,.d (u64 c.epoch),.ptr 0 0,?_,base_E.lay _,rfl,by decide,rfl,.inr ⟨rfl,9,none,by decide,by decide,rfl,.inl ⟨rfl,by simp [hll]⟩,rfl⟩⟩
   clear hc2 hll
   generalize u32s s.addrs.l = us at *
   generalize s.addrs.l.length = n at *
   simp (decide:=true) [regV,base8,hd,hcl,openA,opDE_call,noTr,vcells,fillsE,apartT,Tr.spares,List.range,List.range.loop]
end Go.Proofs.YtegfnefobbgkjaaGreat
namespace Go.Proofs.YtegfnefobbgkjaaGreat
theorem CvR.nu {D:Nat} {nl:Bool} {acc:List Int} {bs:List Blk} {v:V} (h:CvR D nl acc bs v):Go.Proofs.YtegfnefobbgkjaaGreat.nu v = some v:=by
 rcases h with ⟨_,_,rfl⟩ | ⟨_,b,cap,_,_,rfl,_⟩ <;> rfl
theorem OfE.len {c:Cfg} {s:Scp} {bs:List Blk} (h:OfE c s bs):7 < bs.length:=getB_len h.b7
theorem getB_old {bs bs':List Blk} {x:Nat} {cs:List V} (h:getB bs x = some cs) (ho:bs'[x]? = bs[x]?):getB bs' x = some cs:=by
 unfold getB at h ⊢; rw [ho]; exact h
theorem Cv.lay {c:Cfg} {s:Scp} {D:Nat} {nl:Bool} {acc:List Int} {bs:List Blk} {v:V} (h:Cv c s D nl acc bs v) (ys:List Blk):Cv c s D nl acc (bs ++ ys) v :=
 ⟨h.env.lay ys,getB_of h.b2,h.d8,getB_of h.d0,by
  rcases h.is with h | ⟨h1,b,cap,h2,h3,h4,h5,h6⟩
  · exact .inl h
  · exact .inr ⟨h1,b,cap,h2,h3,h4,h5,getB_of h6⟩⟩
theorem Cv.app {c:Cfg} {s:Scp} {D:Nat} {nl:Bool} {acc:List Int} {bs:List Blk} {v:V} (h:Cv c s D nl acc bs v) {n:Int} (hl:acc.length < big) {r:Nat} (hr:getB bs r = some [.d (u32 n)]) :
 ∃ v' bs',∃ f:Nat -> Nat,(∀ lo,appv ⟨bs,lo⟩ 1 4 v (.row r 0 1 (some 1) 1) = some (v',⟨bs',f lo⟩)) /\ bs.length <= bs'.length /\ nu v' = some v' /\ v'.cells = some [v'] /\ getB bs' D = some (vcells c.epoch v nilV nilV nilV nilV) ∧
  Cv c s D false (acc ++ [n]) (bs'.set D (.cells (vcells c.epoch v' nilV nilV nilV nilV))) v':=by
 have hrc:∀ lo,rowCells ⟨bs,lo⟩ (.row r 0 1 (some 1) 1) 1 = some (1,[.d (u32 n)]):=by
  intro lo
  simp only [rowCells,if_true,get_eq,hr]
  rfl
 have hroom:∀ n,n <= big -> roomy n 4 = true:=fun n hn=>by simp only [roomy,Bool.and_eq_true,decide_eq_true_eq]; exact ⟨hn,by decide⟩
 have h7:=h.env.len
 have hD:=getB_len h.d0
 have hd8:=h.d8
 have hset:∀ {bs':List Blk} {v':V},bs.length <= bs'.length -> getB (bs'.set D (.cells (vcells c.epoch v' nilV nilV nilV nilV))) D = some (vcells c.epoch v' nilV nilV nilV nilV):=fun hle=>by
  unfold getB; rw [List.getElem?_set_self (by omega)]
 rcases h.is with ⟨h1,rfl,rfl⟩ | ⟨h1,b,cap,h2,h3,rfl,h4,h5⟩
 · refine ⟨.row bs.length 0 1 none 1,bs ++ [.cells [.d (u32 n)]],fun lo=>lo,fun lo=>by simp only [appv,hrc,appendAt,if_neg (show ¬ (1 = 0) by decide),hroom 1 (by decide),if_true]; rfl,by simp,rfl,rfl,getB_of h.d0,?_,?_,hd8,hset (by simp),.inr ⟨rfl,bs.length,none,by omega,by omega,rfl,.inl ⟨rfl,by simp⟩,?_⟩⟩
   · exact h.env.like fun x hx=>by rw [List.getElem?_set_ne (by omega),List.getElem?_append_left (by omega)]
   · exact getB_old h.b2 (by rw [List.getElem?_set_ne (by omega),List.getElem?_append_left (by omega)])
   · unfold getB; rw [List.getElem?_set_ne (by omega),List.getElem?_append_right (by omega)]; simp [u32s]
 · have hsub:sub (u32s acc) 0 (acc.length * 1) = some (u32s acc):=sub_all (by simp [u32s])
   have hbl:=getB_len h5
   obtain ⟨bs',hlen,hA,hold,hnew⟩:∃ bs':List Blk,bs'.length = bs.length + 1 /\ (∃ f:Nat -> Nat,∀ lo,appv ⟨bs,lo⟩ 1 4 (.row b 0 acc.length cap 1) (.row r 0 1 (some 1) 1) = some (.row bs.length 0 (acc.length + 1) none 1,⟨bs',f lo⟩)) /\ (∀ x,x ≠ b -> x < bs.length -> bs'[x]? = bs[x]?) /\ bs'[bs.length]? = some (.cells (u32s acc ++ [.d (u32 n)])):=by
    by_cases h0:acc = []
    · subst h0
      refine ⟨bs ++ [.cells [.d (u32 n)]],by simp,?_,fun x _ hx=>by rw [List.getElem?_append_left hx],by simp [u32s]⟩
      have hb5:getB bs b = some []:=h5
      rcases h4 with ⟨_,hh⟩ | ⟨rfl,_⟩
      · exact absurd rfl hh
      · exact ⟨fun lo=>lo,fun lo=>by simp [appv,hrc,appendAt,hroom 1 (by decide),get_eq,hb5,sub_eq,Hp.size,Hp.alloc]⟩
    · have hcn:cap = none:=by
       rcases h4 with ⟨h,_⟩ | ⟨_,h⟩
       · exact h
       · exact absurd h h0
      subst hcn
      have hpos:0 < (u32s acc).length:=by simp [u32s]; exact List.length_pos_iff.2 h0
      refine ⟨bs.set b (.cells []) ++ [.cells (u32s acc ++ [.d (u32 n)])],by simp,⟨fun lo=>min lo b,fun lo=>by simp only [appv,hrc,appendAt,ne_eq,not_true_eq_false,false_or,if_neg (show ¬ (1 = 0) by decide),get_eq,h5,hsub,hroom (acc.length + 1) (by omega),Bool.not_true,Bool.false_eq_true,if_false,hpos,and_self,if_true,Hp.size,Hp.alloc,Hp.set,List.length_set]⟩,fun x hx hl=>?_,?_⟩
      · rw [List.getElem?_append_left (by simpa using hl),List.getElem?_set_ne (by omega)]
      · rw [List.getElem?_append_right (by simp)]; simp
   obtain ⟨f,hA⟩:=hA
   refine ⟨_,bs',f,hA,by omega,rfl,rfl,getB_old h.d0 (hold _ (by omega) hD),?_,?_,hd8,hset (by omega),.inr ⟨rfl,bs.length,none,by omega,by omega,by simp,.inl ⟨rfl,by simp⟩,?_⟩⟩
   · exact h.env.like fun x hx=>by rw [List.getElem?_set_ne (by omega),hold x (by omega) (by omega)]
   · exact getB_old h.b2 (by rw [List.getElem?_set_ne (by omega),hold 2 (by omega) (by omega)])
   · unfold getB; rw [List.getElem?_set_ne (by omega),hnew]; simp [u32s]
def bndF (c:Cfg) (node:Int) (l:List Svc):List Int:=(l.filter (bndT c node)).map Svc.addr
theorem put_v1 (e:Int) (v w:V):put (vcells e v nilV nilV nilV nilV) 1 [w] = some (vcells e w nilV nilV nilV nilV):=rfl
theorem sub_v1 (e:Int) (v w2 w3 w4 w5:V):sub (vcells e v w2 w3 w4 w5) 1 1 = some [v]:=rfl
section
variable {E:Calls'} (h45:∀ c:Cfg,c.ok -> ∀ n h,E 56 [c.v,.d (u64 n)] h = some (.tup (match wayT c n with | some w=>[w.v,bl true] | none=>[way0.v,bl false]),h))
include h45
theorem L64 {c:Cfg} {s:Scp} (hc:c.ok) {D:Nat}:∀ (m k:Nat) (acc:List Int) (nl:Bool) (bs:List Blk) (lo:Nat) (v:V),k + m = c.services.l.length -> acc.length + m <= big -> Cv c s D nl acc bs v →
 ∃ bs' lo' v' nl',Cd E TV valV (.loop [2,4,6,7,8,9,10,11,37,38,39] q64_b0) [(2,.ptr 0 0),(4,.ptr 2 0),(6,.ptr 3 0),(7,.ptr 4 0),(8,.ptr 5 0),(9,.ptr 6 0),(10,.ptr 7 0),(11,.ptr D 0),(37,.d (c.services.d Svc.c)),(38,.d (i64 c.services.l.length)),(39,.d (i64 k))] ⟨bs,lo⟩ =
  some (.exit 0,[(2,.ptr 0 0),(4,.ptr 2 0),(6,.ptr 3 0),(7,.ptr 4 0),(8,.ptr 5 0),(9,.ptr 6 0),(10,.ptr 7 0),(11,.ptr D 0)],⟨bs',lo'⟩) ∧
  Cv c s D nl' (acc ++ bndF c s.node (c.services.l.drop k)) bs' v':=by
 have hlt:=hc.2.1.lt
 intro m
 have key:=Cd_round (E:=E) (T:=TV) (val:=valV) [2,4,6,7,8,9,10,11,37,38,39] q64_b0
 generalize Cd E TV valV (.loop [2,4,6,7,8,9,10,11,37,38,39] q64_b0) = W at key ⊢
 induction m with
 | zero =>
  intro k acc nl bs lo v hk ha hg
  have h0:c.services.l.drop k = []:=List.drop_eq_nil_of_le (by omega)
  refine ⟨bs,lo,v,nl,?_,by simpa [h0,bndF] using hg⟩
  rw [key]
  simp [q64_b0,show ¬ ((k:Int) < c.services.l.length) from by omega]
 | succ m ih =>
  intro k acc nl bs lo v hk ha hg
  have h1:k < c.services.l.length:=by omega
  have hx:=fun h=>idxv_sl (z:=5) h (List.getElem?_eq_getElem h1) (cells:=Svc.c) rfl
  have hw:=int_next h1 hlt
  have hdr:c.services.l.drop k = c.services.l[k] :: c.services.l.drop (k + 1):=List.drop_eq_getElem_cons h1
  rw [hdr]
  generalize c.services.l[k] = p at *
  have hD:=getB_len hg.d0
  have hDb:¬ bs.length = D:=by omega
  have hDb':¬ D = bs.length:=by omega
  have hnu:=hg.is.nu
  have hz:∀ x:Svc,put [V.d (.int .u64 0),.d (.str ⟨#[]⟩),.d (.int .u32 0),.d (.int .i64 0),.d (.int .u64 0)] 0 (x.c.map V.d) = some (x.c.map V.d):=fun _=>rfl
  have hfn:=fun ys=>getB_of (ys:=ys) hg.env.b5
  have n1:=fun ys lo=>V130 (E:=E) h45 (c:=c) (s:=s) (h:=⟨bs ++ ys,lo⟩) (hg.env.lay ys) hc p
  cases hb:bndT c s.node p with
  | false =>
   have hg2:=hg.lay [.cells (p.c.map .d)]
   obtain ⟨bs',lo',v',nl',q1,q2⟩:=ih (k + 1) acc nl _ (min lo bs.length) v (by omega) (by omega) hg2
   have hgF:bndF c s.node (p :: c.services.l.drop (k + 1)) = bndF c s.node (c.services.l.drop (k + 1)):=by simp [bndF,hb]
   rw [hgF]
   refine ⟨bs',lo',v',nl',?_,q2⟩
   rw [key]
   simp [q64_b0,hx,hw,hz,hfn,n1,hb,show ((k:Int) < c.services.l.length) from by omega]
   simpa using q1
  | true =>
   have hg2:=hg.lay [.cells (p.c.map .d),.cells [.d (u32 p.addr)]]
   have hsrc:getB (bs ++ [.cells (p.c.map .d),.cells [.d (u32 p.addr)]]) (bs.length + 1) = some [.d (u32 p.addr)]:=by
    simp only [getB]; rw [List.getElem?_append_right (by omega)]; simp
   obtain ⟨v2,bs2,f,a1,a2,a3,a6,a4,a5⟩:=hg2.app (by omega) hsrc
   have hd2:=hg2.d0
   obtain ⟨bs',lo',v',nl',q1,q2⟩:=ih (k + 1) (acc ++ [p.addr]) false _ (min (f (min lo bs.length)) D) v2 (by omega) (by simp; omega) a5
   have hgF:bndF c s.node (p :: c.services.l.drop (k + 1)) = p.addr :: bndF c s.node (c.services.l.drop (k + 1)):=by simp [bndF,hb]
   rw [hgF]
   refine ⟨bs',lo',v',nl',?_,by simpa using q2⟩
   have hd3:=fun ys=>getB_of (ys:=ys) hg.d0
   rw [key]
   simp [q64_b0,hx,hw,hz,hfn,n1,hb,hd3,a1,a3,a4,a6,hnu,put_v1,sub_v1,fillsE,show ((k:Int) < c.services.l.length) from by omega]
   simpa using q1
end
end Go.Proofs.YtegfnefobbgkjaaGreat
namespace Go.Proofs.YtegfnefobbgkjaaGreat
structure OfH (E:Calls'):Prop where
 h41:∀ c:Cfg,c.wf 1048576 -> c.wf big -> ∀ h,E 44 [c.v] h = some (bl (cfgMay c),h)
 h45:∀ c:Cfg,c.ok -> ∀ n h,E 56 [c.v,.d (u64 n)] h = some (.tup (match wayT c n with | some w=>[w.v,bl true] | none=>[way0.v,bl false]),h)
 h52:∀ (p:Pol) (x:Pod) h,E 76 [p.v,x.v] h = some (bl (holdsT p x.ns x.service),h)
 h90:∀ c:Cfg,c.ok -> ∀ h,E 45 [c.v] h = some (c.own.v,h)
 h117:∀ s:Sl Int,short s -> ∀ n h,E 54 [.d (s.d u32C),.d (u32 n)] h = some (bl (hasT s.l n),h)
 h136:∀ (bs:List Blk) (b lo n:Nat) (cap:Option Nat),b < bs.length -> ∀ d:Array Int,d.size = n -> n < 2 ^ 59 -> ∃ ys lo',E 61 [.row b 0 n cap 1] (Mz .u32 bs b d lo) = some (.tup [],Mr (bs ++ ys) b ((sortZ d.toList).map (iv .u32)) lo')
 h136n:∀ h,E 61 [nilV] h = some (.tup [],h)
 h137:∀ (zs:List Int) (b lo:Nat) (cap:Option Nat) (bs:List Blk),b < bs.length -> zs.length < 2 ^ 62 -> ∃ cur lo',E 62 [.row b 0 zs.length cap 1] (Mr bs b (zs.map (iv .u32)) lo) = some (.row b 0 (cmpL zs).length cap 1,Mr bs b cur lo') /\ cur.take (cmpL zs).length = (cmpL zs).map (iv .u32)
 h137n:∀ h,E 62 [nilV] h = some (nilV,h)
def Kp {α:Type} (cells:α -> List D) (z D:Nat) (nl:Bool) (l:List α) (bs:List Blk) (v:V):Prop :=
 (nl = true /\ l = [] /\ v = nilV) \/ (nl = false /\ ∃ B cap rest,8 <= B /\ B ≠ D /\ v = .row B 0 l.length cap z /\ getB bs B = some (flat (l.map cells) ++ rest))
theorem Kp.kept {α:Type} {cells:α -> List D} {z D:Nat} {nl:Bool} {l:List α} {bs:List Blk} {v:V} (h:Kp cells z D nl l bs v):KeptR cells z 8 nl l bs v:=by
 rcases h with h | ⟨h1,B,cap,rest,h2,_,h3,h4⟩
 · exact .inl h
 · exact .inr ⟨h1,B,cap,rest,h2,h3,h4⟩
theorem Kp.like {α:Type} {cells:α -> List D} {z D:Nat} {nl:Bool} {l:List α} {bs bs':List Blk} {v:V} (h:Kp cells z D nl l bs v) (ho:∀ x,8 <= x -> x ≠ D -> x < bs.length -> bs'[x]? = bs[x]?):Kp cells z D nl l bs' v:=by
 rcases h with h | ⟨h1,B,cap,rest,h2,h3,h4,h5⟩
 · exact .inl h
 · exact .inr ⟨h1,B,cap,rest,h2,h3,h4,getB_old h5 (ho B h2 h3 (getB_len h5))⟩
theorem Kp.of {α:Type} {cells:α -> List D} {z D n:Nat} {nl:Bool} {l:List α} {bs:List Blk} {v:V} (h:KeptR cells z n nl l bs v) (h8:8 <= n) (hD:D < n):Kp cells z D nl l bs v:=by
 rcases h with h | ⟨h1,B,cap,rest,h2,h3,h4⟩
 · exact .inl h
 · exact .inr ⟨h1,B,cap,rest,by omega,by omega,h3,h4⟩
theorem KeptR.cells {α:Type} {cells:α -> List D} {z n:Nat} {nl:Bool} {l:List α} {bs:List Blk} {v:V} (h:KeptR cells z n nl l bs v):v.cells = some [v]:=by
 rcases h with ⟨_,_,rfl⟩ | ⟨_,B,cap,rest,_,rfl,_⟩ <;> rfl
structure Vst (c:Cfg) (s:Scp) (D:Nat) (bs:List Blk) (v1 v2 v3 v4 v5:V):Prop where
 env:OfE c s bs
 b2:getB bs 2 = some [.d (.int .u64 0),nilV,nilV,nilV,nilV,nilV]
 d8:8 <= D
 d0:getB bs D = some (vcells c.epoch v1 v2 v3 v4 v5)
section
variable {c:Cfg} {s:Scp} {D:Nat} {bs:List Blk} {v1 v2 v3 v4 v5:V}
theorem Vst.grow (h:Vst c s D bs v1 v2 v3 v4 v5) {bs':List Blk} (ho:∀ x,x < bs.length -> bs'[x]? = bs[x]?):Vst c s D bs' v1 v2 v3 v4 v5 :=
 ⟨h.env.like fun x hx=>ho x (by have:=h.env.len; omega),getB_old h.b2 (ho 2 (by have:=h.env.len; omega)),h.d8,getB_old h.d0 (ho D (getB_len h.d0))⟩
theorem Vst.put (h:Vst c s D bs v1 v2 v3 v4 v5) (w1 w2 w3 w4 w5:V):Vst c s D (bs.set D (.cells (vcells c.epoch w1 w2 w3 w4 w5))) w1 w2 w3 w4 w5:=by
 have h8:=h.d8
 refine ⟨h.env.like fun x hx=>by rw [List.getElem?_set_ne (by omega)],getB_old h.b2 (by rw [List.getElem?_set_ne (by omega)]),h8,?_⟩
 unfold getB; rw [List.getElem?_set_self (getB_len h.d0)]
theorem Kp.step {α:Type} {cells:α -> List Go.Proofs.YtegfnefobbgkjaaGreat.D} {z:Nat} {nl:Bool} {l:List α} {v:V} (h:Kp cells z D nl l bs v) {bs':List Blk} (ho:∀ x,x < bs.length -> bs'[x]? = bs[x]?) (b:Blk):Kp cells z D nl l (bs'.set D b) v :=
 h.like fun x _ h2 h3=>by rw [List.getElem?_set_ne (by omega),ho x h3]
variable {E:Calls'} (H:OfH E)
include H
theorem Vsort {nl:Bool} {acc:List Int} {v:V} (h:Cv c s D nl acc bs v) (ha:acc.length < 2 ^ 59) (lo:Nat):∃ bs2 lo2,E 61 [v] ⟨bs,lo⟩ = some (.tup [],⟨bs2,lo2⟩) /\ Cv c s D nl (sortZ acc) bs2 v:=by
 have h7:=h.env.len
 have hd8:=h.d8
 have hD:=getB_len h.d0
 rcases h.is with ⟨h1,rfl,rfl⟩ | ⟨h1,b,cap,h2,h3,rfl,h4,h5⟩
 · refine ⟨bs,lo,H.h136n _,h.env,h.b2,h.d8,h.d0,.inl ⟨h1,List.length_eq_zero_iff.1 (by rw [sortZ,List.length_mergeSort]; rfl),rfl⟩⟩
 · have hbl:=getB_len h5
   have hM:Mz .u32 bs b ⟨acc⟩ lo = ⟨bs,lo⟩:=Mr_same h5
   obtain ⟨ys,lo',k⟩:=H.h136 bs b lo acc.length cap hbl ⟨acc⟩ rfl ha
   rw [hM] at k
   have hsl:(sortZ acc).length = acc.length:=by rw [sortZ,List.length_mergeSort]
   have hold:∀ x,x ≠ b -> x < bs.length -> (Mr (bs ++ ys) b ((sortZ acc).map (iv .u32)) lo').bs[x]? = bs[x]?:=fun x hx hl=>by
    simp only [Mr]; rw [List.getElem?_set_ne (by omega),List.getElem?_append_left hl]
   refine ⟨_,lo',k,h.env.like fun x hx=>hold x (by omega) (by omega),getB_old h.b2 (hold 2 (by omega) (by omega)),hd8,getB_old h.d0 (hold D (by omega) hD),.inr ⟨h1,b,cap,h2,h3,by rw [hsl],?_,?_⟩⟩
   · rcases h4 with ⟨h4,h6⟩ | ⟨h4,h6⟩
     · exact .inl ⟨h4,fun h0=>h6 (List.length_eq_zero_iff.1 (by rw [← hsl,h0]; rfl))⟩
     · exact .inr ⟨h4,List.length_eq_zero_iff.1 (by rw [hsl,h6]; rfl)⟩
   · have:getB (Mr (bs ++ ys) b ((sortZ acc).map (iv .u32)) lo').bs b = _:=Mr_get (by simp; omega)
     exact this
theorem Vcompact {nl:Bool} {acc:List Int} {v:V} (h:Cv c s D nl acc bs v) (ha:acc.length < 2 ^ 62) (lo:Nat) :
 ∃ v' bs2 lo2,E 62 [v] ⟨bs,lo⟩ = some (v',⟨bs2,lo2⟩) /\ Vst c s D bs2 v nilV nilV nilV nilV /\ Kp u32C 1 D nl (cmpL acc) bs2 v':=by
 have h7:=h.env.len
 have hd8:=h.d8
 have hD:=getB_len h.d0
 rcases h.is with ⟨h1,rfl,rfl⟩ | ⟨h1,b,cap,h2,h3,rfl,h4,h5⟩
 · exact ⟨nilV,bs,lo,H.h137n _,⟨h.env,h.b2,h.d8,h.d0⟩,.inl ⟨h1,rfl,rfl⟩⟩
 · have hbl:=getB_len h5
   have hM:Mr bs b (acc.map (iv .u32)) lo = ⟨bs,lo⟩:=Mr_same h5
   obtain ⟨cur,lo',k,hc⟩:=H.h137 acc b lo cap bs hbl ha
   rw [hM] at k
   have hold:∀ x,x ≠ b -> x < bs.length -> (Mr bs b cur lo').bs[x]? = bs[x]?:=fun x hx hl=>by
    simp only [Mr]; rw [List.getElem?_set_ne (by omega)]
   refine ⟨_,_,lo',k,⟨h.env.like fun x hx=>hold x (by omega) (by omega),getB_old h.b2 (hold 2 (by omega) (by omega)),hd8,getB_old h.d0 (hold D (by omega) hD)⟩,.inr ⟨h1,b,cap,cur.drop (cmpL acc).length,h2,h3,rfl,?_⟩⟩
   have hg:getB (Mr bs b cur lo').bs b = _:=Mr_get hbl
   refine hg.trans ?_
   rw [u32_flat]
   have:u32s (cmpL acc) = cur.take (cmpL acc).length:=hc.symm
   rw [this,List.take_append_drop]
theorem Vk1 (h:Vst c s D bs v1 v2 v3 v4 v5) (hc:c.ok) (hs:short s.addrs) (lo:Nat) :
 ∃ r bs' lo',Sm E TV valV 63 [.d (c.pods.d Pod.c),.fn 64 [.ptr 7 0,.ptr 4 0,.ptr 6 0]] ⟨bs,lo⟩ = some (r,⟨bs',lo'⟩) /\ bs.length <= bs'.length /\ (∀ x,x < bs.length -> bs'[x]? = bs[x]?) /\ KeptR Pod.c 7 bs.length c.pods.nl (ofPods c s) bs' r :=
 S_keep (E:=E) (cells:=Pod.c) vc106 vd106 vc105 vd105 vc100 vd100 vc242 vd242 vc138 vd138 (fun _=>rfl) (by decide) rfl (by decide) hc.1 (q:=podIn c s) fun e _ bs2 lo2 h1 h2 =>
  V139 H.h45 H.h117 (h:=⟨bs2,lo2⟩) (h.grow (by simpa using h2)).env hc hs e
theorem Vk2 (h:Vst c s D bs v1 v2 v3 v4 v5) (hc:c.ok) (hs:short s.addrs) {nl:Bool} (hr:Kp Pod.c 7 D nl (ofPods c s) bs v2) (lo:Nat) :
 ∃ r bs' lo',Sm E TV valV 66 [.d (c.services.d Svc.c),.fn 67 [.ptr 4 0,.ptr 5 0,.ptr D 0]] ⟨bs,lo⟩ = some (r,⟨bs',lo'⟩) /\ bs.length <= bs'.length /\ (∀ x,x < bs.length -> bs'[x]? = bs[x]?) /\ KeptR Svc.c 5 bs.length c.services.nl (ofSvcs c s) bs' r:=by
 have hl:(ofPods c s).length < 2 ^ 62:=by have:=List.length_filter_le (podIn c s) c.pods.l; have:=hc.1.lt; simp only [ofPods]; omega
 exact S_keep (E:=E) (cells:=Svc.c) vc186 vd186 vc243 vd243 vc103 vd103 vc244 vd244 vc141 vd141 (fun _=>rfl) (by decide) rfl (by decide) hc.2.1 (q:=svcIn c s) fun e _ bs2 lo2 h1 h2=>by
  have hg:=h.grow (bs':=bs2) (by simpa using h2)
  exact V142 H.h45 H.h117 (h:=⟨bs2,lo2⟩) hg.env hc hs hg.d0 hl ((hr.like fun x _ _ h3=>h2 x h3).kept.rowIs fun _=>rfl) e
omit H in
theorem Vk3 (h:Vst c s D bs v1 v2 v3 v4 v5) (hc:c.ok) {nl:Bool} (hr:Kp Svc.c 5 D nl (ofSvcs c s) bs v3) (lo:Nat) :
 ∃ r bs' lo',Sm E TV valV 70 [.d (c.bound.d Way.c),.fn 71 [.ptr 3 0,.ptr D 0]] ⟨bs,lo⟩ = some (r,⟨bs',lo'⟩) /\ bs.length <= bs'.length /\ (∀ x,x < bs.length -> bs'[x]? = bs[x]?) /\ KeptR Way.c 2 bs.length c.bound.nl (ofWays c s) bs' r:=by
 have hl:(ofSvcs c s).length < 2 ^ 62:=by have:=List.length_filter_le (svcIn c s) c.services.l; have:=hc.2.1.lt; simp only [ofSvcs]; omega
 exact S_keep (E:=E) (cells:=Way.c) vc187 vd187 vc246 vd246 vc109 vd109 vc247 vd247 vc145 vd145 (fun _=>rfl) (by decide) rfl (by decide) hc.2.2.1 (q:=wayIn c s) fun e _ bs2 lo2 h1 h2=>by
  have hg:=h.grow (bs':=bs2) (by simpa using h2)
  exact V146 (h:=⟨bs2,lo2⟩) hg.env hg.d0 hl ((hr.like fun x _ _ h3=>h2 x h3).kept.rowIs fun _=>rfl) e
theorem Vk4 (h:Vst c s D bs v1 v2 v3 v4 v5) (hc:c.ok) (lo:Nat) :
 ∃ r bs' lo',Sm E TV valV 73 [.d (c.policies.d Pol.c),.fn 74 [.ptr 0 0,.ptr 7 0]] ⟨bs,lo⟩ = some (r,⟨bs',lo'⟩) /\ bs.length <= bs'.length /\ (∀ x,x < bs.length -> bs'[x]? = bs[x]?) /\ KeptR Pol.c 5 bs.length c.policies.nl (c.policies.l.filter (polIn c s.node)) bs' r :=
 S_keep (E:=E) (cells:=Pol.c) vc188 vd188 vc248 vd248 vc339 vd339 vc249 vd249 vc148 vd148 (fun _=>rfl) (by decide) rfl (by decide) hc.2.2.2.1 (q:=polIn c s.node) fun e _ bs2 lo2 h1 h2 =>
  V149 H.h45 H.h52 (h:=⟨bs2,lo2⟩) (h.grow (by simpa using h2)).env hc e
end
end Go.Proofs.YtegfnefobbgkjaaGreat
namespace Go.Proofs.YtegfnefobbgkjaaGreat
def vw0:Vw:=⟨0,⟨true,[]⟩,⟨true,[]⟩,⟨true,[]⟩,⟨true,[]⟩,⟨true,[]⟩⟩
theorem V64n {E:Calls'} (H:OfH E) {c:Cfg} (hc:c.wf 1048576) (hcb:c.wf big) {s:Scp} (hs:short s.addrs) (hno:(cfgMay c && scopeMay s) = false) (h:Hp) :
 Sm E TV valV 30 [c.v,s.v] h = some (.tup [vw0.v,.d (i64 1)],h):=by
 have e1:∀ h,Sm E TV valV 44 [c.v] h = some (bl (cfgMay c),h):=fun h=>by rw [Sm_ext vc41]; exact H.h41 c hc hcb h
 have e2:=fun h=>V67 (E:=E) H.h117 hs h
 have hw:cellsV = cellsV:=rfl
 rw [Sm_v vc64 vd64]
 cases m1:cfgMay c with
 | false=>simp (decide:=true) [Bd_mk,q64,e1,m1]; rfl
 | true =>
  have m2:scopeMay s = false:=by simpa [m1] using hno
  simp (decide:=true) [Bd_mk,q64,e1,e2,m1,m2]; rfl
theorem V64 {E:Calls'} (H:OfH E) {c:Cfg} (hc:c.wf 1048576) (hcb:c.wf big) (hok:c.ok) (hoo:c.own.ok) {s:Scp} (hs:short s.addrs) (h1:cfgMay c = true) (h2:scopeMay s = true) (hsz:s.addrs.l.length + c.services.l.length <= big) :
 ∃ nl,(nl = true -> coverT c s = []) /\ ∀ h,Sm E TV valV 30 [c.v,s.v] h = some (.tup [(ofT c s ⟨nl,coverT c s⟩).v,.d (i64 0)],h):=by
 have e1:∀ h,Sm E TV valV 44 [c.v] h = some (bl true,h):=fun h=>by rw [Sm_ext vc41,← h1]; exact H.h41 c hc hcb h
 have e2:∀ h,Sm E TV valV 21 [s.v] h = some (bl true,h):=fun h=>by rw [← h2]; exact V67 (E:=E) H.h117 hs h
 have e3:∀ h,Sm E TV valV 45 [c.v] h = some (c.own.v,h):=fun h=>by rw [Sm_ext vc90]; exact H.h90 c hok h
 have n136:∀ args h,Sm E TV valV 61 args h = E 61 args h:=fun args h=>by rw [Sm_ext vc136]
 have n137:∀ args h,Sm E TV valV 62 args h = E 62 args h:=fun args h=>by rw [Sm_ext vc137]
 have hz:∀ x:Cfg,put (c.c.map V.d) 0 (x.c.map V.d) = some (x.c.map V.d):=fun _=>rfl
 have hfc:∀ f caps,(V.fn f caps).cells = some [V.fn f caps]:=fun _ _=>rfl
 obtain ⟨D,v,bs,x35,x33,x32,x31,x30,p1,p2⟩:=Vpre (E:=E) (c:=c.own) hs (.fn 60 [.ptr 1 0,.ptr 6 0,.ptr 5 0]) (.fn 52 [.ptr 1 0]) (.fn 53 [.ptr 1 0]) (.fn 55 [.ptr 0 0,.ptr 3 0]) (.fn 57 [.ptr 0 0]) c.own.v (ag c.c) (.d (.bool false)) (.d (.bool false)) (bl true) (ag s.c) (.d (.bool false)) (.d (.bool false)) (bl true) (ag c.c) (.d (.int .i64 0)) (.ptr 2 0) (.ptr 3 0) (.ptr 4 0) (.ptr 5 0) (.ptr 6 0) (.ptr 7 0) (ag c.c) (ag s.c)
 simp only [regV,base8,nilV] at p1
 obtain ⟨bs1,lo1,v',nl,l1,l2⟩:=L64 H.h45 (s:=s) hoo c.services.l.length 0 s.addrs.l s.addrs.nl bs 0 v (by simp [Cfg.own]) (by omega) p2
 simp only [List.drop_zero] at l2
 rw [show ((0:Nat):Int) = 0 from rfl] at l1
 have hlen:(s.addrs.l ++ bndF c.own s.node c.own.services.l).length < 2 ^ 59:=by
  have:(bndF c.own s.node c.own.services.l).length <= c.services.l.length:=by
   simp only [bndF,List.length_map]; exact List.length_filter_le _ _
  rw [List.length_append]
  have hb:big < 2 ^ 59:=by decide
  omega
 obtain ⟨bs2,lo2,s1,s2⟩:=Vsort H l2 hlen lo1
 obtain ⟨w1,bs3,lo3,c1,c2,c3⟩:=Vcompact H s2 (by rw [sortZ,List.length_mergeSort]; omega) lo2
 refine ⟨nl,?_,?_⟩
 · intro hnl
   rcases c3 with ⟨_,h0,_⟩ | ⟨h0,_⟩
   · exact h0
   · rw [hnl] at h0; cases h0
 have d3:=c2.put w1 nilV nilV nilV nilV
 have k3:=c3.step (fun _ _=>rfl) (.cells (vcells c.own.epoch w1 nilV nilV nilV nilV))
 obtain ⟨w2,bs4,lo4,g1,g2,g3,g4⟩:=Vk1 H d3 hoo hs (min lo3 D)
 have d4:=(d3.grow g3).put w1 w2 nilV nilV nilV
 have k4:=k3.step g3 (.cells (vcells c.own.epoch w1 w2 nilV nilV nilV))
 have hD3:=getB_len d3.d0
 have hd8:=d3.d8
 have a4:=(Kp.of g4 (by omega) hD3).step (fun _ _=>rfl) (.cells (vcells c.own.epoch w1 w2 nilV nilV nilV))
 obtain ⟨w3,bs5,lo5,i1,i2,i3,i4⟩:=Vk2 H d4 hoo hs a4 (min lo4 D)
 have d5:=(d4.grow i3).put w1 w2 w3 nilV nilV
 have hD4:=getB_len d4.d0
 have k5:=k4.step i3 (.cells (vcells c.own.epoch w1 w2 w3 nilV nilV))
 have a5:=a4.step i3 (.cells (vcells c.own.epoch w1 w2 w3 nilV nilV))
 have b5:=(Kp.of i4 (by omega) hD4).step (fun _ _=>rfl) (.cells (vcells c.own.epoch w1 w2 w3 nilV nilV))
 obtain ⟨w4,bs6,lo6,j1,j2,j3,j4⟩:=Vk3 (E:=E) d5 hoo b5 (min lo5 D)
 have d6:=(d5.grow j3).put w1 w2 w3 w4 nilV
 have hD5:=getB_len d5.d0
 have k6:=k5.step j3 (.cells (vcells c.own.epoch w1 w2 w3 w4 nilV))
 have a6:=a5.step j3 (.cells (vcells c.own.epoch w1 w2 w3 w4 nilV))
 have b6:=b5.step j3 (.cells (vcells c.own.epoch w1 w2 w3 w4 nilV))
 have c6:=(Kp.of j4 (by omega) hD5).step (fun _ _=>rfl) (.cells (vcells c.own.epoch w1 w2 w3 w4 nilV))
 obtain ⟨w5,bs7,lo7,m1,m2,m3,m4⟩:=Vk4 H d6 hoo (min lo6 D)
 have d7:=(d6.grow m3).put w1 w2 w3 w4 w5
 have hD6:=getB_len d6.d0
 have k7:=k6.step m3 (.cells (vcells c.own.epoch w1 w2 w3 w4 w5))
 have a7:=a6.step m3 (.cells (vcells c.own.epoch w1 w2 w3 w4 w5))
 have b7:=b6.step m3 (.cells (vcells c.own.epoch w1 w2 w3 w4 w5))
 have c7:=c6.step m3 (.cells (vcells c.own.epoch w1 w2 w3 w4 w5))
 have e7:=(Kp.of m4 (by omega) hD6).step (fun _ _=>rfl) (.cells (vcells c.own.epoch w1 w2 w3 w4 w5))
 have hfin:∀ lo,cellsV ⟨((bs7.set D (.cells (vcells c.own.epoch w1 w2 w3 w4 w5))).set 2 (.cells (vcells c.own.epoch w1 w2 w3 w4 w5))),lo⟩ (vcells c.own.epoch w1 w2 w3 w4 w5) = some (ofT c s ⟨nl,coverT c s⟩).c:=by
  intro lo
  have st:∀ x,8 <= x -> x ≠ D -> x < (bs7.set D (Blk.cells (vcells c.own.epoch w1 w2 w3 w4 w5))).length -> ((bs7.set D (Blk.cells (vcells c.own.epoch w1 w2 w3 w4 w5))).set 2 (.cells (vcells c.own.epoch w1 w2 w3 w4 w5)))[x]? = (bs7.set D (Blk.cells (vcells c.own.epoch w1 w2 w3 w4 w5)))[x]?:=fun x hx _ _=>by rw [List.getElem?_set_ne (by omega)]
  have r1:=KeptR.dat (cells:=u32C) (z:=1) (fun _=>rfl) (k7.like st).kept lo 7
  have r2:=KeptR.dat (cells:=Pod.c) (z:=7) (fun _=>rfl) (a7.like st).kept lo 7
  have r3:=KeptR.dat (cells:=Svc.c) (z:=5) (fun _=>rfl) (b7.like st).kept lo 7
  have r4:=KeptR.dat (cells:=Way.c) (z:=2) (fun _=>rfl) (c7.like st).kept lo 7
  have r5:=KeptR.dat (cells:=Pol.c) (z:=5) (fun _=>rfl) (e7.like st).kept lo 7
  simp only [vcells] at r1 r2 r3 r4 r5 ⊢
  simp only [cellsV,List.mapM_cons,List.mapM_nil,r1,r2,r3,r4,r5]
  rfl
 have sv0:∀ e v1 v2 v3 v4 v5,sub (vcells e v1 v2 v3 v4 v5) 0 6 = some (vcells e v1 v2 v3 v4 v5):=fun _ _ _ _ _ _=>rfl
 have sv1:∀ e v1 v2 v3 v4 v5,sub (vcells e v1 v2 v3 v4 v5) 1 1 = some [v1]:=fun _ _ _ _ _ _=>rfl
 have pu1:∀ e v1 v2 v3 v4 v5 w,put (vcells e v1 v2 v3 v4 v5) 1 [w] = some (vcells e w v2 v3 v4 v5):=fun _ _ _ _ _ _ _=>rfl
 have pu2:∀ e v1 v2 v3 v4 v5 w,put (vcells e v1 v2 v3 v4 v5) 2 [w] = some (vcells e v1 w v3 v4 v5):=fun _ _ _ _ _ _ _=>rfl
 have pu3:∀ e v1 v2 v3 v4 v5 w,put (vcells e v1 v2 v3 v4 v5) 3 [w] = some (vcells e v1 v2 w v4 v5):=fun _ _ _ _ _ _ _=>rfl
 have pu4:∀ e v1 v2 v3 v4 v5 w,put (vcells e v1 v2 v3 v4 v5) 4 [w] = some (vcells e v1 v2 v3 w v5):=fun _ _ _ _ _ _ _=>rfl
 have pu5:∀ e v1 v2 v3 v4 v5 w,put (vcells e v1 v2 v3 v4 v5) 5 [w] = some (vcells e v1 v2 v3 v4 w):=fun _ _ _ _ _ _ _=>rfl
 have pz:∀ e v1 v2 v3 v4 v5,put [V.d (.int .u64 0),.d (.slice true []),.d (.slice true []),.d (.slice true []),.d (.slice true []),.d (.slice true [])] 0 (vcells e v1 v2 v3 v4 v5) = some (vcells e v1 v2 v3 v4 v5):=fun _ _ _ _ _ _=>rfl
 have vl:∀ e v1 v2 v3 v4 v5,(vcells e v1 v2 v3 v4 v5).length = 6:=fun _ _ _ _ _ _=>rfl
 have u1:=k7.kept.nu.1
 have u2:=a7.kept.nu.1
 have u3:=b7.kept.nu.1
 have u4:=c7.kept.nu.1
 have u5:=e7.kept.nu.1
 have o1:=k7.kept.cells
 have o2:=a7.kept.cells
 have o3:=b7.kept.cells
 have o4:=c7.kept.cells
 have o5:=e7.kept.cells
 have uv:=l2.is.nu
 have q0:okV v' = true:=by rcases l2.is with ⟨_,_,rfl⟩ | ⟨_,b,cap,_,_,rfl,_⟩ <;> rfl
 have q1:=k7.kept.nu.2
 have q2:=a7.kept.nu.2
 have q3:=b7.kept.nu.2
 have q4:=c7.kept.nu.2
 have q5:=e7.kept.nu.2
 have y1:=l2.d0
 have y2:=s2.d0
 have y3:=c2.d0
 have y4:=(d3.grow g3).d0
 have y5:=(d4.grow i3).d0
 have y6:=(d5.grow j3).d0
 have y7:=(d6.grow m3).d0
 have y8:=d7.d0
 have y9:=d7.b2
 have y10:getB ((bs7.set D (.cells (vcells c.own.epoch w1 w2 w3 w4 w5))).set 2 (.cells (vcells c.own.epoch w1 w2 w3 w4 w5))) 2 = some (vcells c.own.epoch w1 w2 w3 w4 w5):=by
  have:=getB_len y9
  unfold getB; rw [List.getElem?_set_self this]
 have ht3:=d3.env.b0
 have ht4:=d4.env.b0
 have ht5:=d5.env.b0
 have ht6:=d6.env.b0
 have hpb:=p2.env.b0
 have hlc:(ofT c s ⟨nl,coverT c s⟩).v = .agg ((ofT c s ⟨nl,coverT c s⟩).c.map .d):=rfl
 have hz8:∀ x:Cfg,x.c.length = 8:=fun _=>rfl
 intro h
 rw [Sm_v vc64 vd64]
 simp (decide:=true) [Bd_mk,q64,e1,e2,e3,hz,hfc,p1,hpb]
 rw [Cd_keep]
 simp (decide:=true) [l1,y1,y2,y3,y4,y5,y6,y7,y8,y9,y10,ht3,ht4,ht5,ht6,sv0,sv1,pu1,pu2,pu3,pu4,pu5,pz,vl,u1,u2,u3,u4,u5,o1,o2,o3,o4,o5,uv,q0,q1,q2,q3,q4,q5,n136,n137,s1,c1,g1,i1,j1,m1,hfin]
end Go.Proofs.YtegfnefobbgkjaaGreat
namespace Go.Proofs.YtegfnefobbgkjaaGreat
theorem ofT_ok {c:Cfg} (hc:c.ok) (hoo:c.own.ok) {s:Scp} {nl:Bool} (hn:nl = true -> coverT c s = []) (hsz:s.addrs.l.length + c.services.l.length <= big):(ofT c s ⟨nl,coverT c s⟩).ok:=by
 have f1:=List.length_filter_le (podIn c s) c.pods.l
 have f2:=List.length_filter_le (svcIn c s) c.services.l
 have f3:=List.length_filter_le (wayIn c s) c.bound.l
 have f4:=List.length_filter_le (polIn c s.node) (c.policies.l.map Pol.own)
 rw [List.length_map] at f4
 refine ⟨⟨?_,hn⟩,⟨?_,fun h=>?_⟩,⟨?_,fun h=>?_⟩,⟨?_,fun h=>?_⟩,⟨?_,fun h=>?_⟩,fun p hp=>hoo.2.2.2.2 p (List.mem_filter.1 hp).1⟩
 · have h1:=cmpL_len (sortZ (s.addrs.l ++ (c.services.l.filter (bndT c s.node)).map Svc.addr))
   have h2:(sortZ (s.addrs.l ++ (c.services.l.filter (bndT c s.node)).map Svc.addr)).length = s.addrs.l.length + (c.services.l.filter (bndT c s.node)).length:=by
    rw [sortZ,List.length_mergeSort,List.length_append,List.length_map]
   have h3:=List.length_filter_le (bndT c s.node) c.services.l
   have:(coverT c s).length = (cmpL (sortZ (s.addrs.l ++ (c.services.l.filter (bndT c s.node)).map Svc.addr))).length:=rfl
   show (coverT c s).length <= big
   omega
 · exact Nat.le_trans f1 hc.1.1
 · show c.pods.l.filter _ = []
   rw [hc.1.2 h]; rfl
 · exact Nat.le_trans f2 hc.2.1.1
 · show c.services.l.filter _ = []
   rw [hc.2.1.2 h]; rfl
 · exact Nat.le_trans f3 hc.2.2.1.1
 · show c.bound.l.filter _ = []
   rw [hc.2.2.1.2 h]; rfl
 · exact Nat.le_trans f4 hc.2.2.2.1.1
 · show (c.policies.l.map Pol.own).filter _ = []
   rw [hc.2.2.2.1.2 h]; rfl
end Go.Proofs.YtegfnefobbgkjaaGreat
namespace Go.Proofs.YtegfnefobbgkjaaGreat
end Go.Proofs.YtegfnefobbgkjaaGreat
