/- view.Of: its closures. -/
import Derived.Test.YtmnfjejphmmddaaGreatOa
import Derived.Test.YtmnfjejphmmddaaGreatF64
import Derived.KernelRfl
import Derived.Test.YtmnfjejphmmddaaGreatCp
import Derived.Test.YtmnfjejphmmddaaGreatTa
import Derived.Test.YtmnfjejphmmddaaGreatQt
import Derived.Test.YtmnfjejphmmddaaGreatVa
set_option maxRecDepth 100000
set_option linter.unusedVariables false
set_option linter.unusedSimpArgs false
namespace Go.Proofs.YtmnfjejphmmddaaGreat
def tabV:List (Nat × QF):=[(64,q64),(67,q67),(100,q100),(103,q103),(105,q105),(106,q106),(109,q109),(128,q128),(129,q129),(130,q130),(131,q131),(132,q132),(133,q133),(134,q134),(135,q135),(138,q138),(139,q139),(140,q140),(141,q141),(142,q142),(143,q143),(144,q144),(145,q145),(146,q146),(147,q147),(148,q148),(149,q149),(150,q150),(154,q154),(186,q186),(187,q187),(188,q188),(239,q239),(242,q242),(243,q243),(244,q244),(245,q245),(246,q246),(247,q247),(248,q248),(249,q249),(250,q250),(251,q251),(339,q339)]
def TV:FuncId -> Option QF:=lookT tabV
def valV (f:FuncId):Bool:=[64,67,154,250].any fun n=>Nat.beq n f
theorem vc64:TV 64 = some (q64):=by kernel_rfl
theorem vd64:valV 64 = true:=by kernel_rfl
theorem vc67:TV 67 = some (q67):=by kernel_rfl
theorem vd67:valV 67 = true:=by kernel_rfl
theorem vc100:TV 100 = some (idxQ 7):=by kernel_rfl
theorem vd100:valV 100 = false:=by kernel_rfl
theorem vc103:TV 103 = some (idxQ 5):=by kernel_rfl
theorem vd103:valV 103 = false:=by kernel_rfl
theorem vc105:TV 105 = some (delQ 7 100 [(.d (.int .u64 0)),(.d (.str ⟨#[]⟩)),(.d (.str ⟨#[]⟩)),(.d (.int .i64 0)),(.d (.int .u32 0)),(.d (.int .i64 0)),(.d (.int .u64 0))]):=by kernel_rfl
theorem vd105:valV 105 = false:=by kernel_rfl
theorem vc106:TV 106 = some (cloneQ 7 72 [(.d (.int .u64 0)),(.d (.str ⟨#[]⟩)),(.d (.str ⟨#[]⟩)),(.d (.int .i64 0)),(.d (.int .u32 0)),(.d (.int .i64 0)),(.d (.int .u64 0))]):=by kernel_rfl
theorem vd106:valV 106 = false:=by kernel_rfl
theorem vc109:TV 109 = some (idxQ 2):=by kernel_rfl
theorem vd109:valV 109 = false:=by kernel_rfl
theorem vc128:TV 128 = some (q128):=by kernel_rfl
theorem vd128:valV 128 = false:=by kernel_rfl
theorem vc129:TV 129 = some (q129):=by kernel_rfl
theorem vd129:valV 129 = false:=by kernel_rfl
theorem vc130:TV 130 = some (q130):=by kernel_rfl
theorem vd130:valV 130 = false:=by kernel_rfl
theorem vc131:TV 131 = some (q131):=by kernel_rfl
theorem vd131:valV 131 = false:=by kernel_rfl
theorem vc132:TV 132 = some (someQ 239):=by kernel_rfl
theorem vd132:valV 132 = false:=by kernel_rfl
theorem vc133:TV 133 = some (q133):=by kernel_rfl
theorem vd133:valV 133 = false:=by kernel_rfl
theorem vc134:TV 134 = some (q134):=by kernel_rfl
theorem vd134:valV 134 = false:=by kernel_rfl
theorem vc135:TV 135 = some (cloneQ 1 4 [(.d (.int .u32 0))]):=by kernel_rfl
theorem vd135:valV 135 = false:=by kernel_rfl
theorem vc138:TV 138 = some (keepQ 106 242 105):=by kernel_rfl
theorem vd138:valV 138 = false:=by kernel_rfl
theorem vc139:TV 139 = some (q139):=by kernel_rfl
theorem vd139:valV 139 = false:=by kernel_rfl
theorem vc140:TV 140 = some (q140):=by kernel_rfl
theorem vd140:valV 140 = false:=by kernel_rfl
theorem vc141:TV 141 = some (keepQ 186 244 243):=by kernel_rfl
theorem vd141:valV 141 = false:=by kernel_rfl
theorem vc142:TV 142 = some (q142):=by kernel_rfl
theorem vd142:valV 142 = false:=by kernel_rfl
theorem vc143:TV 143 = some (someQ 245):=by kernel_rfl
theorem vd143:valV 143 = false:=by kernel_rfl
theorem vc144:TV 144 = some (q144):=by kernel_rfl
theorem vd144:valV 144 = false:=by kernel_rfl
theorem vc145:TV 145 = some (keepQ 187 247 246):=by kernel_rfl
theorem vd145:valV 145 = false:=by kernel_rfl
theorem vc146:TV 146 = some (q146):=by kernel_rfl
theorem vd146:valV 146 = false:=by kernel_rfl
theorem vc147:TV 147 = some (q147):=by kernel_rfl
theorem vd147:valV 147 = false:=by kernel_rfl
theorem vc148:TV 148 = some (keepQ 188 249 248):=by kernel_rfl
theorem vd148:valV 148 = false:=by kernel_rfl
theorem vc149:TV 149 = some (q149):=by kernel_rfl
theorem vd149:valV 149 = false:=by kernel_rfl
theorem vc150:TV 150 = some (q150):=by kernel_rfl
theorem vd150:valV 150 = false:=by kernel_rfl
theorem vc154:TV 154 = some (q154):=by kernel_rfl
theorem vd154:valV 154 = true:=by kernel_rfl
theorem vc186:TV 186 = some (cloneQ 5 48 [(.d (.int .u64 0)),(.d (.str ⟨#[]⟩)),(.d (.int .u32 0)),(.d (.int .i64 0)),(.d (.int .u64 0))]):=by kernel_rfl
theorem vd186:valV 186 = false:=by kernel_rfl
theorem vc187:TV 187 = some (cloneQ 2 16 [(.d (.int .u64 0)),(.d (.int .i64 0))]):=by kernel_rfl
theorem vd187:valV 187 = false:=by kernel_rfl
theorem vc188:TV 188 = some (cloneQ 5 64 [(.d (.int .u64 0)),(.d (.str ⟨#[]⟩)),(.d (.int .u64 0)),(.d (.int .i64 0)),(.d (.slice true []))]):=by kernel_rfl
theorem vd188:valV 188 = false:=by kernel_rfl
theorem vc239:TV 239 = some (anyQ 103):=by kernel_rfl
theorem vd239:valV 239 = false:=by kernel_rfl
theorem vc242:TV 242 = some (notQ 7):=by kernel_rfl
theorem vd242:valV 242 = false:=by kernel_rfl
theorem vc243:TV 243 = some (delQ 5 103 [(.d (.int .u64 0)),(.d (.str ⟨#[]⟩)),(.d (.int .u32 0)),(.d (.int .i64 0)),(.d (.int .u64 0))]):=by kernel_rfl
theorem vd243:valV 243 = false:=by kernel_rfl
theorem vc244:TV 244 = some (notQ 5):=by kernel_rfl
theorem vd244:valV 244 = false:=by kernel_rfl
theorem vc245:TV 245 = some (anyQ 100):=by kernel_rfl
theorem vd245:valV 245 = false:=by kernel_rfl
theorem vc246:TV 246 = some (delQ 2 109 [(.d (.int .u64 0)),(.d (.int .i64 0))]):=by kernel_rfl
theorem vd246:valV 246 = false:=by kernel_rfl
theorem vc247:TV 247 = some (notQ 2):=by kernel_rfl
theorem vd247:valV 247 = false:=by kernel_rfl
theorem vc248:TV 248 = some (delQ 5 339 [(.d (.int .u64 0)),(.d (.str ⟨#[]⟩)),(.d (.int .u64 0)),(.d (.int .i64 0)),(.d (.slice true []))]):=by kernel_rfl
theorem vd248:valV 248 = false:=by kernel_rfl
theorem vc249:TV 249 = some (notQ 5):=by kernel_rfl
theorem vd249:valV 249 = false:=by kernel_rfl
theorem vc250:TV 250 = some (q250):=by kernel_rfl
theorem vd250:valV 250 = true:=by kernel_rfl
theorem vc251:TV 251 = some (q251):=by kernel_rfl
theorem vd251:valV 251 = false:=by kernel_rfl
theorem vc339:TV 339 = some (idxQ 5):=by kernel_rfl
theorem vd339:valV 339 = false:=by kernel_rfl
theorem vc41:TV 41 = none:=by kernel_rfl
theorem vc45:TV 45 = none:=by kernel_rfl
theorem vc52:TV 52 = none:=by kernel_rfl
theorem vc90:TV 90 = none:=by kernel_rfl
theorem vc117:TV 117 = none:=by kernel_rfl
theorem vc136:TV 136 = none:=by kernel_rfl
theorem vc137:TV 137 = none:=by kernel_rfl
def Scp.c (x:Scp):List D:=[i64 x.node,x.addrs.d u32C]
@[simp] theorem Scp.len {x:Scp}:x.c.length = 2:=(rfl)
@[simp] theorem Scp.all {x:Scp}:sub x.c 0 2 = some x.c:=(rfl)
@[simp] theorem Scp.s0_1 {x:Scp}:sub x.c 0 1 = some [i64 x.node]:=(rfl)
@[simp] theorem Scp.s1_1 {x:Scp}:sub x.c 1 1 = some [x.addrs.d u32C]:=(rfl)
theorem getB_at1 {bs ys:List Blk}:getB (bs ++ ys) (bs.length + 1) = getB ys 1:=by
 unfold getB; rw [List.getElem?_append_right (by omega)]; simp
structure OfE (c:Cfg) (s:Scp) (bs:List Blk):Prop where
 b0:getB bs 0 = some (c.c.map .d)
 b1:getB bs 1 = some (s.c.map .d)
 b3:getB bs 3 = some [.fn 128 [.ptr 1 0]]
 b4:getB bs 4 = some [.fn 129 [.ptr 1 0]]
 b5:getB bs 5 = some [.fn 130 [.ptr 0 0,.ptr 3 0]]
 b6:getB bs 6 = some [.fn 131 [.ptr 0 0]]
 b7:getB bs 7 = some [.fn 134 [.ptr 1 0,.ptr 6 0,.ptr 5 0]]
theorem OfE.lay {c:Cfg} {s:Scp} {bs:List Blk} (h:OfE c s bs) (ys:List Blk):OfE c s (bs ++ ys) :=
 ⟨getB_of h.b0,getB_of h.b1,getB_of h.b3,getB_of h.b4,getB_of h.b5,getB_of h.b6,getB_of h.b7⟩
theorem OfE.like {c:Cfg} {s:Scp} {bs bs':List Blk} (h:OfE c s bs) (ho:∀ x,x < 8 -> bs'[x]? = bs[x]?):OfE c s bs':=by
 have g:∀ x cs,x < 8 -> getB bs x = some cs -> getB bs' x = some cs:=fun x cs hx hg=>by
  unfold getB at hg ⊢; rw [ho x hx]; exact hg
 exact ⟨g _ _ (by decide) h.b0,g _ _ (by decide) h.b1,g _ _ (by decide) h.b3,g _ _ (by decide) h.b4,g _ _ (by decide) h.b5,g _ _ (by decide) h.b6,g _ _ (by decide) h.b7⟩
section
variable {E:Calls'} (h45:∀ c:Cfg,c.ok -> ∀ n h,E 45 [c.v,.d (u64 n)] h = some (.tup (match wayT c n with | some w=>[w.v,bl true] | none=>[way0.v,bl false]),h))
 (h117:∀ s:Sl Int,short s -> ∀ n h,E 117 [.d (s.d u32C),.d (u32 n)] h = some (bl (hasT s.l n),h))
 (h52:∀ (p:Pol) (x:Pod) h,E 52 [p.v,x.v] h = some (bl (holdsT p x.ns x.service),h))
variable {c:Cfg} {s:Scp}
theorem V128 {h:Hp} (hE:OfE c s h.bs) (w:Way):Sm E TV valV 128 [ag w.c,.ptr 1 0] h = some (bl (w.node == s.node),h):=by
 rw [Sm_ref vc128 vd128]
 simp [Bd_mk,q128,getB_of hE.b1,V.under,Way.c]
include h117 in
theorem V129 {h:Hp} (hE:OfE c s h.bs) (hs:short s.addrs) (a:Int):Sm E TV valV 129 [.d (u32 a),.ptr 1 0] h = some (bl (hasT s.addrs.l a),h):=by
 have m:∀ h,Sm E TV valV 117 [.d (s.addrs.d u32C),.d (u32 a)] h = some (bl (hasT s.addrs.l a),h):=fun h=>by rw [Sm_ext vc117]; exact h117 _ hs a h
 rw [Sm_ref vc129 vd129]
 simp [Bd_mk,q129,hE.b1,m,V.under]
include h45 in
theorem V130 {h:Hp} (hE:OfE c s h.bs) (hc:c.ok) (x:Svc):Sm E TV valV 130 [ag x.c,.ptr 0 0,.ptr 3 0] h = some (bl (bndT c s.node x),h):=by
 have m:=h45 c hc x.id
 have mm:∀ h,Sm E TV valV 45 [c.v,.d (u64 x.id)] h = E 45 [c.v,.d (u64 x.id)] h:=fun h=>by rw [Sm_ext vc45]
 have k:=fun w ys lo=>V128 (E:=E) (h:=⟨h.bs ++ ys,lo⟩) (hE.lay ys) w
 rw [Sm_ref vc130 vd130]
 unfold bndT
 have hw:∀ w:Way,w.c.map V.d ++ List.drop 2 [V.d (D.int .u64 0),.d (.int .i64 0)] = w.c.map V.d:=fun _=>rfl
 cases hx:wayT c x.id with
 | none =>
  rw [hx] at m
  simp (decide:=true) [Bd_mk,q130,getB_of hE.b0,mm,m,openA,opDE_call,noTr,opsA_if,V.under]
 | some w =>
  rw [hx] at m
  simp (decide:=true) [Bd_mk,q130,getB_of hE.b0,getB_of hE.b3,mm,m,hw,k,openA,opDE_call,noTr,opsA_if,V.under]
theorem V133 {h:Hp} {x:Svc} {p:Pod} {P Q:Nat} {f:FuncId} {caps:List V} {so:Svc -> Bool} (hP:getB h.bs P = some (p.c.map .d)) (hQ:getB h.bs Q = some [.fn f caps])
 (hso:∀ ys lo,Sm E TV valV f (ag x.c :: caps) ⟨h.bs ++ ys,lo⟩ = some (bl (so x),⟨h.bs ++ ys,lo⟩)):Sm E TV valV 133 [ag x.c,.ptr P 0,.ptr Q 0] h = some (bl (x.id == p.service && so x),h):=by
 rw [Sm_ref vc133 vd133]
 cases e:(x.id == p.service) <;> simp (decide:=true) [Bd_mk,q133,getB_of hP,getB_of hQ,hso,e,openA,opDE_call,noTr,opsA_if,V.under]
theorem V131 {h:Hp} (hE:OfE c s h.bs) (hc:c.ok) {p:Pod} {f:FuncId} {caps:List V} {so:Svc -> Bool}
 (hso:∀ x ∈ c.services.l,∀ ys lo,Sm E TV valV f (ag x.c :: caps) ⟨h.bs ++ ys,lo⟩ = some (bl (so x),⟨h.bs ++ ys,lo⟩)):Sm E TV valV 131 [ag p.c,.fn f caps,.ptr 0 0] h = some (bl (ofSvc c p so),h):=by
 rw [Sm_ref vc131 vd131]
 have hany:∀ lo,Sm E TV valV 132 [.d (c.services.d Svc.c),.fn 133 [.ptr h.bs.length 0,.ptr (h.bs.length + 1) 0]] ⟨h.bs ++ [.cells (p.c.map .d),.cells [.fn f caps]],lo⟩ = some (bl (ofSvc c p so),⟨h.bs ++ [.cells (p.c.map .d),.cells [.fn f caps]],lo⟩):=fun lo =>
  S_some (E:=E) (T:=TV) (val:=valV) vc132 vd132 rfl rfl (S_any (E:=E) Svc.c (z:=5) vc103 vd103 vc239 vd239 (RowIs.of (cells:=Svc.c) (fun _=>rfl) _) hc.2.1.lt fun e he lo2=>V133 (p:=p) (f:=f) (caps:=caps) (so:=so) (by simp) (by simp [getB_at1]) (fun ys lo3=>by
   have:=hso e he ([.cells (p.c.map .d),.cells [.fn f caps]] ++ ys) lo3
   simpa using this))
 simp (decide:=true) [Bd_mk,q131,getB_of hE.b0,hany,V.under]
end
end Go.Proofs.YtmnfjejphmmddaaGreat
namespace Go.Proofs.YtmnfjejphmmddaaGreat
theorem RowIs.lay {bs:List Blk} {v:V} {z:Nat} {es:List (List D)} (h:RowIs bs v z es) (ys:List Blk):RowIs (bs ++ ys) v z es:=by
 refine ⟨h.1,?_⟩
 rcases h.2 with h1 | ⟨b,o,cap,cs,h1,h2,h3⟩
 · exact .inl h1
 · exact .inr ⟨b,o,cap,cs,h1,getB_of h2,h3⟩
section
variable {E:Calls'} (h45:∀ c:Cfg,c.ok -> ∀ n h,E 45 [c.v,.d (u64 n)] h = some (.tup (match wayT c n with | some w=>[w.v,bl true] | none=>[way0.v,bl false]),h))
 (h117:∀ s:Sl Int,short s -> ∀ n h,E 117 [.d (s.d u32C),.d (u32 n)] h = some (bl (hasT s.l n),h))
 (h52:∀ (p:Pol) (x:Pod) h,E 52 [p.v,x.v] h = some (bl (holdsT p x.ns x.service),h))
variable {c:Cfg} {s:Scp}
include h45 in
theorem V134 {h:Hp} (hE:OfE c s h.bs) (hc:c.ok) (p:Pod):Sm E TV valV 134 [ag p.c,.ptr 1 0,.ptr 6 0,.ptr 5 0] h = some (bl (ownT c s.node p),h):=by
 have m:∀ ys lo,Sm E TV valV 131 [ag p.c,.fn 130 [.ptr 0 0,.ptr 3 0],.ptr 0 0] ⟨h.bs ++ ys,lo⟩ = some (bl (ofSvc c p (bndT c s.node)),⟨h.bs ++ ys,lo⟩):=fun ys lo =>
  V131 (h:=⟨h.bs ++ ys,lo⟩) (hE.lay ys) hc fun x _ zs lo2=>V130 h45 (h:=⟨h.bs ++ ys ++ zs,lo2⟩) ((hE.lay ys).lay zs) hc x
 rw [Sm_ref vc134 vd134]
 unfold ownT
 cases e:(p.host == s.node) <;> simp (decide:=true) [Bd_mk,q134,getB_of hE.b1,getB_of hE.b5,getB_of hE.b6,e,m,openA,opDE_call,noTr,opsA_if,V.under]
include h117 in
theorem V140 {h:Hp} (hE:OfE c s h.bs) (hs:short s.addrs) (x:Svc):Sm E TV valV 140 [ag x.c,.ptr 4 0] h = some (bl (hasT s.addrs.l x.addr),h):=by
 have m:=fun ys lo=>V129 (E:=E) h117 (h:=⟨h.bs ++ ys,lo⟩) (hE.lay ys) hs x.addr
 rw [Sm_ref vc140 vd140]
 simp [Bd_mk,q140,getB_of hE.b4,m,V.under]
include h45 h117 in
theorem V139 {h:Hp} (hE:OfE c s h.bs) (hc:c.ok) (hs:short s.addrs) (p:Pod):Sm E TV valV 139 [ag p.c,.ptr 7 0,.ptr 4 0,.ptr 6 0] h = some (bl (podIn c s p),h):=by
 have m1:=fun ys lo=>V134 (E:=E) h45 (h:=⟨h.bs ++ ys,lo⟩) (hE.lay ys) hc p
 have m2:=fun ys lo=>V129 (E:=E) h117 (h:=⟨h.bs ++ ys,lo⟩) (hE.lay ys) hs p.addr
 have m3:∀ ys lo,Sm E TV valV 131 [ag p.c,.fn 140 [.ptr 4 0],.ptr 0 0] ⟨h.bs ++ ys,lo⟩ = some (bl (ofSvc c p fun x=>hasT s.addrs.l x.addr),⟨h.bs ++ ys,lo⟩):=fun ys lo =>
  V131 (h:=⟨h.bs ++ ys,lo⟩) (hE.lay ys) hc fun x _ zs lo2=>V140 h117 (h:=⟨h.bs ++ ys ++ zs,lo2⟩) ((hE.lay ys).lay zs) hs x
 rw [Sm_ref vc139 vd139]
 unfold podIn
 cases e1:ownT c s.node p <;> cases e2:hasT s.addrs.l p.addr <;> simp (decide:=true) [Bd_mk,q139,getB_of hE.b4,getB_of hE.b6,getB_of hE.b7,e1,e2,m1,m2,m3,openA,opDE_call,noTr,opsA_if,V.under]
theorem V144 {h:Hp} {x:Svc} {P:Nat} (hP:getB h.bs P = some (x.c.map .d)) (p:Pod):Sm E TV valV 144 [ag p.c,.ptr P 0] h = some (bl (p.service == x.id),h):=by
 rw [Sm_ref vc144 vd144]
 simp (decide:=true) [Bd_mk,q144,getB_of hP,V.under]
def vcells (e:Int) (v1 v2 v3 v4 v5:V):List V:=[.d (u64 e),v1,v2,v3,v4,v5]
include h45 h117 in
theorem V142 {h:Hp} (hE:OfE c s h.bs) (hc:c.ok) (hs:short s.addrs) {e:Int} {v1 v2 v3 v4 v5:V} {D:Nat} (hD:getB h.bs D = some (vcells e v1 v2 v3 v4 v5)) {l:List Pod} (hl:l.length < 2 ^ 62) (hr:RowIs h.bs v2 7 (l.map Pod.c)) (x:Svc) :
 Sm E TV valV 142 [ag x.c,.ptr 4 0,.ptr 5 0,.ptr D 0] h = some (bl (hasT s.addrs.l x.addr || (bndT c s.node x || l.any fun p=>p.service == x.id)),h):=by
 have m1:=fun ys lo=>V129 (E:=E) h117 (h:=⟨h.bs ++ ys,lo⟩) (hE.lay ys) hs x.addr
 have m2:=fun ys lo=>V130 (E:=E) h45 (h:=⟨h.bs ++ ys,lo⟩) (hE.lay ys) hc x
 have m3:∀ lo,Sm E TV valV 143 [v2,.fn 144 [.ptr h.bs.length 0]] ⟨h.bs ++ [.cells (x.c.map .d)],lo⟩ = some (bl (l.any fun p=>p.service == x.id),⟨h.bs ++ [.cells (x.c.map .d)],lo⟩):=fun lo =>
  S_some (E:=E) (T:=TV) (val:=valV) vc143 vd143 hr.ok hr.okv (S_any (E:=E) Pod.c (z:=7) vc100 vd100 vc245 vd245 (hr.lay _) hl fun e he lo2=>V144 (by simp) e)
 rw [Sm_ref vc142 vd142]
 have hd:sub (vcells e v1 v2 v3 v4 v5) 2 1 = some [v2]:=rfl
 cases e1:hasT s.addrs.l x.addr <;> cases e2:bndT c s.node x <;> simp (decide:=true) [Bd_mk,q142,getB_of hE.b4,getB_of hE.b5,getB_of hD,hd,e1,e2,m1,m2,m3,openA,opDE_call,noTr,opsA_if,V.under,hr.ok,hr.okv]
theorem V147 {h:Hp} {w:Way} {P:Nat} (hP:getB h.bs P = some (w.c.map .d)) (x:Svc):Sm E TV valV 147 [ag x.c,.ptr P 0] h = some (bl (x.way == w.id),h):=by
 rw [Sm_ref vc147 vd147]
 simp (decide:=true) [Bd_mk,q147,getB_of hP,V.under]
theorem V146 {h:Hp} (hE:OfE c s h.bs) {e:Int} {v1 v2 v3 v4 v5:V} {D:Nat} (hD:getB h.bs D = some (vcells e v1 v2 v3 v4 v5)) {l:List Svc} (hl:l.length < 2 ^ 62) (hr:RowIs h.bs v3 5 (l.map Svc.c)) (w:Way) :
 Sm E TV valV 146 [ag w.c,.ptr 3 0,.ptr D 0] h = some (bl (w.node == s.node || l.any fun x=>x.way == w.id),h):=by
 have m1:=fun ys lo=>V128 (E:=E) (h:=⟨h.bs ++ ys,lo⟩) (hE.lay ys) w
 have m3:∀ lo,Sm E TV valV 132 [v3,.fn 147 [.ptr h.bs.length 0]] ⟨h.bs ++ [.cells (w.c.map .d)],lo⟩ = some (bl (l.any fun x=>x.way == w.id),⟨h.bs ++ [.cells (w.c.map .d)],lo⟩):=fun lo =>
  S_some (E:=E) (T:=TV) (val:=valV) vc132 vd132 hr.ok hr.okv (S_any (E:=E) Svc.c (z:=5) vc103 vd103 vc239 vd239 (hr.lay _) hl fun e he lo2=>V147 (by simp) e)
 rw [Sm_ref vc146 vd146]
 have hd:sub (vcells e v1 v2 v3 v4 v5) 3 1 = some [v3]:=rfl
 cases e1:(w.node == s.node) <;> simp (decide:=true) [Bd_mk,q146,getB_of hE.b3,getB_of hD,hd,e1,m1,m3,openA,opDE_call,noTr,opsA_if,V.under,hr.ok,hr.okv]
include h45 h52 in
theorem V150 {h:Hp} (hE:OfE c s h.bs) (hc:c.ok) {p:Pol} {P:Nat} (hP:getB h.bs P = some (p.c.map .d)) (x:Pod):Sm E TV valV 150 [ag x.c,.ptr 7 0,.ptr P 0] h = some (bl (ownT c s.node x && holdsT p x.ns x.service),h):=by
 have m1:=fun ys lo=>V134 (E:=E) h45 (h:=⟨h.bs ++ ys,lo⟩) (hE.lay ys) hc x
 have m2:∀ h,Sm E TV valV 52 [ag p.c,ag x.c] h = some (bl (holdsT p x.ns x.service),h):=fun h=>by rw [Sm_ext vc52]; exact h52 p x h
 rw [Sm_ref vc150 vd150]
 cases e1:ownT c s.node x <;> simp (decide:=true) [Bd_mk,q150,getB_of hE.b7,getB_of hP,e1,m1,m2,openA,opDE_call,noTr,opsA_if,V.under]
include h45 h52 in
theorem V149 {h:Hp} (hE:OfE c s h.bs) (hc:c.ok) (p:Pol):Sm E TV valV 149 [ag p.c,.ptr 0 0,.ptr 7 0] h = some (bl (polIn c s.node p),h):=by
 have m3:∀ lo,Sm E TV valV 143 [.d (c.pods.d Pod.c),.fn 150 [.ptr 7 0,.ptr h.bs.length 0]] ⟨h.bs ++ [.cells (p.c.map .d)],lo⟩ = some (bl (polIn c s.node p),⟨h.bs ++ [.cells (p.c.map .d)],lo⟩):=fun lo =>
  S_some (E:=E) (T:=TV) (val:=valV) vc143 vd143 rfl rfl (S_any (E:=E) Pod.c (z:=7) vc100 vd100 vc245 vd245 (RowIs.of (cells:=Pod.c) (fun _=>rfl) _) hc.1.lt fun e he lo2=>by
  have k:=V150 (E:=E) h45 h52 (s:=s) (p:=p) (P:=h.bs.length) (h:=⟨h.bs ++ [.cells (p.c.map .d)],lo2⟩) (hE.lay [.cells (p.c.map .d)]) hc (by simp) e
  exact k)
 rw [Sm_ref vc149 vd149]
 simp (decide:=true) [Bd_mk,q149,getB_of hE.b0,m3,V.under]
end
end Go.Proofs.YtmnfjejphmmddaaGreat
namespace Go.Proofs.YtmnfjejphmmddaaGreat
abbrev Scp.v (x:Scp):V:=ag x.c
section
variable {E:Calls'}
theorem V251 (a:Int) (h:Hp):Sm E TV valV 251 [.d (u32 a)] h = some (.d (u32 a),h):=by
 rw [Sm_ref vc251 vd251]
 simp [Bd_mk,q251,V.under]
theorem ix_u32 {s:Sl Int} {i:Nat} (hi:i < s.l.length) {kd:IntKind} {h:Hp}:idxv none 1 (.d (s.d u32C)) (.d (.int kd i)) h = some (.eptr (u32C s.l[i]) 0,h) :=
 ix_data (cells:=u32C) (fun _=>rfl) hi
theorem L250 {s:Sl Int} (hs:s.l.length < 2 ^ 62) (most:Int):∀ (m i:Nat),i + m = s.l.length -> 1 <= i →
 Cd E TV valV (.loop [0,1,2,9,10] q250_b0) [(0,.d (s.d u32C)),(1,.d (i64 most)),(2,.fn 251 []),(9,.d (i64 s.l.length)),(10,.d (i64 i))] ⟨[],0⟩ =
  if risesL (s.l.drop (i - 1)) then some (.exit 0,[(0,.d (s.d u32C)),(1,.d (i64 most))],⟨[],0⟩) else some (.ret,[(6,bl false)],⟨[],0⟩):=by
 intro m
 have key:=Cd_round (E:=E) (T:=TV) (val:=valV) [0,1,2,9,10] q250_b0
 generalize Cd E TV valV (.loop [0,1,2,9,10] q250_b0) = W at key ⊢
 induction m with
 | zero =>
  intro i hi h1
  rw [key,risesL_end (by omega)]
  simp [q250_b0,show ¬ ((i:Int) < s.l.length) from by omega]
 | succ m ih =>
  intro i hi h1
  have hlt:i < s.l.length:=by omega
  have hd:=risesL_drop (l:=s.l) (i:=i - 1) (by omega)
  have hs1:i - 1 + 1 = i:=by omega
  simp only [hs1] at hd
  have hp1:=fun h=>ix_u32 hlt (kd:=.i64) (h:=h)
  have hp0:=fun h=>ix_u32 (show i - 1 < s.l.length by omega) (kd:=.i64) (h:=h)
  have c1:=V251 (E:=E)
  have hw:=int_next hlt hs
  have hwm:IntKind.wrap .i64 ((i:Int) - 1) = ((i - 1:Nat):Int):=by rw [wrap64] <;> omega
  have hpos:0 < i:=h1
  have hih:=ih (i + 1) (by omega) (by omega)
  simp only [show i + 1 - 1 = i by omega] at hih
  rw [key,hd]
  generalize s.l[i] = y at *
  generalize s.l[i - 1] = x at *
  by_cases hg:x < y
  · simp (decide:=true) [q250_b0,hp1,hp0,u32C,hwm,hw,hpos,c1,hlt,hg,openA,opDE_call,noTr,show ¬ (x >= y) from by omega]
    simpa using hih
  · simp (decide:=true) [q250_b0,hp1,hp0,u32C,hwm,hw,hpos,c1,hlt,hg,openA,opDE_call,noTr,show x >= y from by omega]
theorem V250 {s:Sl Int} (hs:s.l.length < 2 ^ 62) (most:Int) (h:Hp):Sm E TV valV 250 [.d (s.d u32C),.d (i64 most),.fn 251 []] h = some (bl (risesL s.l && decide ((s.l.length:Int) <= most)),h):=by
 rw [Sm_v vc250 vd250]
 have hfr:frz h (.fn 251 []) = some (.fn 251 []):=rfl
 have key:=Cd_round (E:=E) (T:=TV) (val:=valV) [0,1,2,9,10] q250_b0
 have hl:=L250 (E:=E) hs most
 simp [Bd_mk,q250,hfr]
 rw [Cd_keep]
 simp only [keepA_cons,keepA_nil]
 simp
 generalize Cd E TV valV (.loop [0,1,2,9,10] q250_b0) = W at key hl ⊢
 by_cases h0:s.l = []
 · rw [key]
   simp [q250_b0,h0,risesL,pureV]
 · have hpos:0 < s.l.length:=List.length_pos_iff.2 h0
   have h1:=hl (s.l.length - 1) 1 (by omega) (by omega)
   simp at h1
   rw [key]
   have hw:=int_next hpos hs
   simp at hw
   simp (decide:=true) [q250_b0,openA,noTr,hpos,hw,h1]
   cases risesL s.l <;> simp [pureV]
variable (h117:∀ s:Sl Int,short s -> ∀ n h,E 117 [.d (s.d u32C),.d (u32 n)] h = some (bl (hasT s.l n),h))
include h117
theorem V154 {s:Sl Int} (hs:short s) (most:Int) (h:Hp):Sm E TV valV 154 [.d (s.d u32C),.d (i64 most)] h = some (bl (coversT s.l most),h):=by
 have m:∀ h,Sm E TV valV 117 [.d (s.d u32C),.d (u32 0)] h = some (bl (hasT s.l 0),h):=fun h=>by rw [Sm_ext vc117]; exact h117 _ hs 0 h
 rw [Sm_v vc154 vd154]
 cases e:(risesL s.l && decide ((s.l.length:Int) <= most)) <;> simp (decide:=true) [Bd_mk,q154,V250 hs.lt most,m,e,coversT,openA,opDE_call,noTr,opsA_if]
theorem V67 {s:Scp} (hs:short s.addrs) (h:Hp):Sm E TV valV 67 [s.v] h = some (bl (scopeMay s),h):=by
 rw [Sm_v vc67 vd67]
 have hv:=fun h=>V154 (E:=E) h117 hs 32 h
 unfold scopeMay
 by_cases e1:s.node >= 2 <;> by_cases e2:s.node <= 9 <;> simp (decide:=true) [Bd_mk,q67,hv,e1,e2,openA,opDE_call,noTr,opsA_if,V.under]
end
end Go.Proofs.YtmnfjejphmmddaaGreat
namespace Go.Proofs.YtmnfjejphmmddaaGreat
abbrev nilV:V:=.d (.slice true [])
def base8 (c:Cfg) (s:Scp):List Blk:=[.cells (c.c.map .d),.cells (s.c.map .d),.cells [.d (.int .u64 0),nilV,nilV,nilV,nilV,nilV],.cells [.fn 128 [.ptr 1 0]],.cells [.fn 129 [.ptr 1 0]],.cells [.fn 130 [.ptr 0 0,.ptr 3 0]],.cells [.fn 131 [.ptr 0 0]],.cells [.fn 134 [.ptr 1 0,.ptr 6 0,.ptr 5 0]]]
theorem base_E {c:Cfg} {s:Scp}:OfE c s (base8 c s):=⟨rfl,rfl,rfl,rfl,rfl,rfl,rfl⟩
def u32s (l:List Int):List V:=l.map fun n=>.d (u32 n)
theorem u32_flat:∀ l:List Int,flat (l.map u32C) = u32s l
 | []=>rfl
 | x :: l=>by
  have:=u32_flat l
  simp only [flat,u32s] at this ⊢
  simp [u32C,this]
def CvR (D:Nat) (nl:Bool) (acc:List Int) (bs:List Blk) (v:V):Prop :=
 (nl = true /\ acc = [] /\ v = nilV) \/ (nl = false /\ ∃ b cap,8 <= b /\ b ≠ D /\ v = .row b 0 acc.length cap 1 /\ ((cap = none /\ acc ≠ []) \/ (cap = some 0 /\ acc = [])) /\ getB bs b = some (u32s acc))
structure Cv (c:Cfg) (s:Scp) (D:Nat) (nl:Bool) (acc:List Int) (bs:List Blk) (v:V):Prop where
 env:OfE c s bs
 b2:getB bs 2 = some [.d (.int .u64 0),nilV,nilV,nilV,nilV,nilV]
 d8:8 <= D
 d0:getB bs D = some (vcells c.epoch v nilV nilV nilV nilV)
 is:CvR D nl acc bs v
theorem put_v0 (e:Int) (v:V):put [V.d (.int .u64 0),nilV,nilV,nilV,nilV,nilV] 0 (vcells e v nilV nilV nilV nilV) = some (vcells e v nilV nilV nilV nilV):=rfl
def regV:List (List Nat) × List RO:=([[],[0],[],[2],[3,2],[1,0,4,3,2],[],[5,1,0,4,3,2,6]],[⟨none,some 30,.fldA (.t 2) 0⟩,⟨none,some 31,.load true 1 (.t 30)⟩,⟨none,some 32,.fldA (.t 3) 1⟩,⟨none,some 33,.load true 1 (.t 32)⟩,⟨none,some 34,.call (.c (.fn 135 [])) [.t 33]⟩,⟨none,some 35,.build [(.d (.int .u64 0)),(.d (.slice true [])),(.d (.slice true [])),(.d (.slice true [])),(.d (.slice true [])),(.d (.slice true []))] [(0,1,(.t 31)),(1,1,(.t 34))]⟩,⟨none,some 11,.new [(.d (.int .u64 0)),(.d (.slice true [])),(.d (.slice true [])),(.d (.slice true [])),(.d (.slice true [])),(.d (.slice true []))]⟩,⟨none,none,.store 6 (.t 11) (.t 35)⟩])
theorem Vpre {E:Calls'} {c:Cfg} {s:Scp} (hs:short s.addrs) (x29 x25 x26 x27 x28 x24 x23 x21 x20 x19 x18 x17 x16 x15 x14 x5 x4 x6 x7 x8 x9 x10 x0 x1:V) :
 ∃ D v bs x35 x33 x32 x31 x30,openA (Sm E TV valV) regV.1 regV.2 [(10,x10),(29,x29),(9,x9),(28,x28),(8,x8),(27,x27),(7,x7),(26,x26),(6,x6),(25,x25),(24,x24),(23,x23),(21,x21),(20,x20),(19,x19),(18,x18),(17,x17),(16,x16),(15,x15),(14,x14),(5,x5),(4,x4),(3,.ptr 1 0),(2,.ptr 0 0),(0,x0),(1,x1)] ⟨base8 c s,0⟩ =
  some ([(11,.ptr D 0),(35,x35),(34,v),(33,x33),(32,x32),(31,x31),(30,x30),(10,x10),(29,x29),(9,x9),(28,x28),(8,x8),(27,x27),(7,x7),(26,x26),(6,x6),(25,x25),(24,x24),(23,x23),(21,x21),(20,x20),(19,x19),(18,x18),(17,x17),(16,x16),(15,x15),(14,x14),(5,x5),(4,x4),(3,.ptr 1 0),(2,.ptr 0 0),(0,x0),(1,x1)],⟨bs,0⟩) /\ Cv c s D s.addrs.nl s.addrs.l bs v:=by
 have hcl:=fun h=>S_cloneR (E:=E) (T:=TV) (val:=valV) vc135 vd135 (by decide) (by decide) (nl:=s.addrs.nl) (es:=s.addrs.l.map u32C) (by simp [u32C]) (by simpa using hs.1) h
 have hd:s.addrs.d u32C = .slice s.addrs.nl (s.addrs.l.map u32C):=rfl
 have p0:=fun v=>put_v0 c.epoch v
 cases hnl:s.addrs.nl with
 | true =>
  have hl:=hs.2 hnl
  rw [hnl] at hcl hd
  simp [cloneR] at hcl
  refine ⟨8,nilV,base8 c s ++ [.cells (vcells c.epoch nilV nilV nilV nilV nilV)],.agg (vcells c.epoch (nilV) nilV nilV nilV nilV),.d (s.addrs.d u32C),.ptr 1 1,.d (u64 c.epoch),.ptr 0 0,?_,base_E.lay _,rfl,by decide,rfl,.inl ⟨rfl,hl,rfl⟩⟩
  simp (decide:=true) [regV,base8,hd,hcl,openA,opDE_call,noTr,vcells,fillsE,apartT,Tr.spares,List.range,List.range.loop]
 | false =>
  rw [hnl] at hcl hd
  cases hll:s.addrs.l with
  | nil =>
   rw [hll] at hcl hd
   simp [cloneR] at hcl hd
   refine ⟨9,.row 8 0 0 (some 0) 1,base8 c s ++ [.cells [],.cells (vcells c.epoch (.row 8 0 0 (some 0) 1) nilV nilV nilV nilV)],.agg (vcells c.epoch (.row 8 0 0 (some 0) 1) nilV nilV nilV nilV),.d (s.addrs.d u32C),.ptr 1 1,.d (u64 c.epoch),.ptr 0 0,?_,base_E.lay _,rfl,by decide,rfl,.inr ⟨rfl,8,some 0,by decide,by decide,rfl,.inr ⟨rfl,rfl⟩,rfl⟩⟩
   simp (decide:=true) [regV,base8,hd,hcl,openA,opDE_call,noTr,vcells,fillsE,apartT,Tr.spares,List.range,List.range.loop]
  | cons p l' =>
   have hc2:∀ bs lo,cloneR 1 false (s.addrs.l.map u32C) bs lo = (.row (bs.length + 1) 0 s.addrs.l.length none 1,⟨bs ++ [.cells [],.cells (u32s s.addrs.l)],lo⟩):=fun bs lo=>by
    rw [← u32_flat,hll]; simp [cloneR]
   simp only [hc2] at hcl
   rw [← hll]
   refine ⟨10,.row 9 0 s.addrs.l.length none 1,base8 c s ++ [.cells [],.cells (u32s s.addrs.l),.cells (vcells c.epoch (.row 9 0 s.addrs.l.length none 1) nilV nilV nilV nilV)],.agg (vcells c.epoch (.row 9 0 s.addrs.l.length none 1) nilV nilV nilV nilV),.d (s.addrs.d u32C),.ptr 1 1,.d (u64 c.epoch),.ptr 0 0,?_,base_E.lay _,rfl,by decide,rfl,.inr ⟨rfl,9,none,by decide,by decide,rfl,.inl ⟨rfl,by simp [hll]⟩,rfl⟩⟩
   clear hc2 hll
   generalize u32s s.addrs.l = us at *
   generalize s.addrs.l.length = n at *
   simp (decide:=true) [regV,base8,hd,hcl,openA,opDE_call,noTr,vcells,fillsE,apartT,Tr.spares,List.range,List.range.loop]
end Go.Proofs.YtmnfjejphmmddaaGreat
namespace Go.Proofs.YtmnfjejphmmddaaGreat
theorem CvR.nu {D:Nat} {nl:Bool} {acc:List Int} {bs:List Blk} {v:V} (h:CvR D nl acc bs v):Go.Proofs.YtmnfjejphmmddaaGreat.nu v = some v:=by
 rcases h with ⟨_,_,rfl⟩ | ⟨_,b,cap,_,_,rfl,_⟩ <;> rfl
theorem OfE.len {c:Cfg} {s:Scp} {bs:List Blk} (h:OfE c s bs):7 < bs.length:=getB_len h.b7
theorem getB_old {bs bs':List Blk} {x:Nat} {cs:List V} (h:getB bs x = some cs) (ho:bs'[x]? = bs[x]?):getB bs' x = some cs:=by
 unfold getB at h ⊢; rw [ho]; exact h
theorem Cv.lay {c:Cfg} {s:Scp} {D:Nat} {nl:Bool} {acc:List Int} {bs:List Blk} {v:V} (h:Cv c s D nl acc bs v) (ys:List Blk):Cv c s D nl acc (bs ++ ys) v :=
 ⟨h.env.lay ys,getB_of h.b2,h.d8,getB_of h.d0,by
  rcases h.is with h | ⟨h1,b,cap,h2,h3,h4,h5,h6⟩
  · exact .inl h
  · exact .inr ⟨h1,b,cap,h2,h3,h4,h5,getB_of h6⟩⟩
theorem Cv.app {c:Cfg} {s:Scp} {D:Nat} {nl:Bool} {acc:List Int} {bs:List Blk} {v:V} (h:Cv c s D nl acc bs v) {n:Int} (hl:acc.length < big) {r:Nat} (hr:getB bs r = some [.d (u32 n)]) :
 ∃ v' bs',∃ f:Nat -> Nat,(∀ lo,appv ⟨bs,lo⟩ 1 4 v (.row r 0 1 (some 1) 1) = some (v',⟨bs',f lo⟩)) /\ bs.length <= bs'.length /\ nu v' = some v' /\ v'.cells = some [v'] /\ getB bs' D = some (vcells c.epoch v nilV nilV nilV nilV) ∧
  Cv c s D false (acc ++ [n]) (bs'.set D (.cells (vcells c.epoch v' nilV nilV nilV nilV))) v':=by
 have hrc:∀ lo,rowCells ⟨bs,lo⟩ (.row r 0 1 (some 1) 1) 1 = some (1,[.d (u32 n)]):=by
  intro lo
  simp only [rowCells,if_true,get_eq,hr]
  rfl
 have hroom:∀ n,n <= big -> roomy n 4 = true:=fun n hn=>by simp only [roomy,Bool.and_eq_true,decide_eq_true_eq]; exact ⟨hn,by decide⟩
 have h7:=h.env.len
 have hD:=getB_len h.d0
 have hd8:=h.d8
 have hset:∀ {bs':List Blk} {v':V},bs.length <= bs'.length -> getB (bs'.set D (.cells (vcells c.epoch v' nilV nilV nilV nilV))) D = some (vcells c.epoch v' nilV nilV nilV nilV):=fun hle=>by
  unfold getB; rw [List.getElem?_set_self (by omega)]
 rcases h.is with ⟨h1,rfl,rfl⟩ | ⟨h1,b,cap,h2,h3,rfl,h4,h5⟩
 · refine ⟨.row bs.length 0 1 none 1,bs ++ [.cells [.d (u32 n)]],fun lo=>lo,fun lo=>by simp only [appv,hrc,appendAt,if_neg (show ¬ (1 = 0) by decide),hroom 1 (by decide),if_true]; rfl,by simp,rfl,rfl,getB_of h.d0,?_,?_,hd8,hset (by simp),.inr ⟨rfl,bs.length,none,by omega,by omega,rfl,.inl ⟨rfl,by simp⟩,?_⟩⟩
   · exact h.env.like fun x hx=>by rw [List.getElem?_set_ne (by omega),List.getElem?_append_left (by omega)]
   · exact getB_old h.b2 (by rw [List.getElem?_set_ne (by omega),List.getElem?_append_left (by omega)])
   · unfold getB; rw [List.getElem?_set_ne (by omega),List.getElem?_append_right (by omega)]; simp [u32s]
 · have hsub:sub (u32s acc) 0 (acc.length * 1) = some (u32s acc):=sub_all (by simp [u32s])
   have hbl:=getB_len h5
   obtain ⟨bs',hlen,hA,hold,hnew⟩:∃ bs':List Blk,bs'.length = bs.length + 1 /\ (∃ f:Nat -> Nat,∀ lo,appv ⟨bs,lo⟩ 1 4 (.row b 0 acc.length cap 1) (.row r 0 1 (some 1) 1) = some (.row bs.length 0 (acc.length + 1) none 1,⟨bs',f lo⟩)) /\ (∀ x,x ≠ b -> x < bs.length -> bs'[x]? = bs[x]?) /\ bs'[bs.length]? = some (.cells (u32s acc ++ [.d (u32 n)])):=by
    by_cases h0:acc = []
    · subst h0
      refine ⟨bs ++ [.cells [.d (u32 n)]],by simp,?_,fun x _ hx=>by rw [List.getElem?_append_left hx],by simp [u32s]⟩
      have hb5:getB bs b = some []:=h5
      rcases h4 with ⟨_,hh⟩ | ⟨rfl,_⟩
      · exact absurd rfl hh
      · exact ⟨fun lo=>lo,fun lo=>by simp [appv,hrc,appendAt,hroom 1 (by decide),get_eq,hb5,sub_eq,Hp.size,Hp.alloc]⟩
    · have hcn:cap = none:=by
       rcases h4 with ⟨h,_⟩ | ⟨_,h⟩
       · exact h
       · exact absurd h h0
      subst hcn
      have hpos:0 < (u32s acc).length:=by simp [u32s]; exact List.length_pos_iff.2 h0
      refine ⟨bs.set b (.cells []) ++ [.cells (u32s acc ++ [.d (u32 n)])],by simp,⟨fun lo=>min lo b,fun lo=>by simp only [appv,hrc,appendAt,ne_eq,not_true_eq_false,false_or,if_neg (show ¬ (1 = 0) by decide),get_eq,h5,hsub,hroom (acc.length + 1) (by omega),Bool.not_true,Bool.false_eq_true,if_false,hpos,and_self,if_true,Hp.size,Hp.alloc,Hp.set,List.length_set]⟩,fun x hx hl=>?_,?_⟩
      · rw [List.getElem?_append_left (by simpa using hl),List.getElem?_set_ne (by omega)]
      · rw [List.getElem?_append_right (by simp)]; simp
   obtain ⟨f,hA⟩:=hA
   refine ⟨_,bs',f,hA,by omega,rfl,rfl,getB_old h.d0 (hold _ (by omega) hD),?_,?_,hd8,hset (by omega),.inr ⟨rfl,bs.length,none,by omega,by omega,by simp,.inl ⟨rfl,by simp⟩,?_⟩⟩
   · exact h.env.like fun x hx=>by rw [List.getElem?_set_ne (by omega),hold x (by omega) (by omega)]
   · exact getB_old h.b2 (by rw [List.getElem?_set_ne (by omega),hold 2 (by omega) (by omega)])
   · unfold getB; rw [List.getElem?_set_ne (by omega),hnew]; simp [u32s]
def bndF (c:Cfg) (node:Int) (l:List Svc):List Int:=(l.filter (bndT c node)).map Svc.addr
theorem put_v1 (e:Int) (v w:V):put (vcells e v nilV nilV nilV nilV) 1 [w] = some (vcells e w nilV nilV nilV nilV):=rfl
theorem sub_v1 (e:Int) (v w2 w3 w4 w5:V):sub (vcells e v w2 w3 w4 w5) 1 1 = some [v]:=rfl
section
variable {E:Calls'} (h45:∀ c:Cfg,c.ok -> ∀ n h,E 45 [c.v,.d (u64 n)] h = some (.tup (match wayT c n with | some w=>[w.v,bl true] | none=>[way0.v,bl false]),h))
include h45
theorem L64 {c:Cfg} {s:Scp} (hc:c.ok) {D:Nat}:∀ (m k:Nat) (acc:List Int) (nl:Bool) (bs:List Blk) (lo:Nat) (v:V),k + m = c.services.l.length -> acc.length + m <= big -> Cv c s D nl acc bs v →
 ∃ bs' lo' v' nl',Cd E TV valV (.loop [2,4,6,7,8,9,10,11,37,38,39] q64_b0) [(2,.ptr 0 0),(4,.ptr 2 0),(6,.ptr 3 0),(7,.ptr 4 0),(8,.ptr 5 0),(9,.ptr 6 0),(10,.ptr 7 0),(11,.ptr D 0),(37,.d (c.services.d Svc.c)),(38,.d (i64 c.services.l.length)),(39,.d (i64 k))] ⟨bs,lo⟩ =
  some (.exit 0,[(2,.ptr 0 0),(4,.ptr 2 0),(6,.ptr 3 0),(7,.ptr 4 0),(8,.ptr 5 0),(9,.ptr 6 0),(10,.ptr 7 0),(11,.ptr D 0)],⟨bs',lo'⟩) ∧
  Cv c s D nl' (acc ++ bndF c s.node (c.services.l.drop k)) bs' v':=by
 have hlt:=hc.2.1.lt
 intro m
 have key:=Cd_round (E:=E) (T:=TV) (val:=valV) [2,4,6,7,8,9,10,11,37,38,39] q64_b0
 generalize Cd E TV valV (.loop [2,4,6,7,8,9,10,11,37,38,39] q64_b0) = W at key ⊢
 induction m with
 | zero =>
  intro k acc nl bs lo v hk ha hg
  have h0:c.services.l.drop k = []:=List.drop_eq_nil_of_le (by omega)
  refine ⟨bs,lo,v,nl,?_,by simpa [h0,bndF] using hg⟩
  rw [key]
  simp [q64_b0,show ¬ ((k:Int) < c.services.l.length) from by omega]
 | succ m ih =>
  intro k acc nl bs lo v hk ha hg
  have h1:k < c.services.l.length:=by omega
  have hx:=fun h=>idxv_sl (z:=5) h (List.getElem?_eq_getElem h1) (cells:=Svc.c) rfl
  have hw:=int_next h1 hlt
  have hdr:c.services.l.drop k = c.services.l[k] :: c.services.l.drop (k + 1):=List.drop_eq_getElem_cons h1
  rw [hdr]
  generalize c.services.l[k] = p at *
  have hD:=getB_len hg.d0
  have hDb:¬ bs.length = D:=by omega
  have hDb':¬ D = bs.length:=by omega
  have hnu:=hg.is.nu
  have hz:∀ x:Svc,put [V.d (.int .u64 0),.d (.str ⟨#[]⟩),.d (.int .u32 0),.d (.int .i64 0),.d (.int .u64 0)] 0 (x.c.map V.d) = some (x.c.map V.d):=fun _=>rfl
  have hfn:=fun ys=>getB_of (ys:=ys) hg.env.b5
  have n1:=fun ys lo=>V130 (E:=E) h45 (c:=c) (s:=s) (h:=⟨bs ++ ys,lo⟩) (hg.env.lay ys) hc p
  cases hb:bndT c s.node p with
  | false =>
   have hg2:=hg.lay [.cells (p.c.map .d)]
   obtain ⟨bs',lo',v',nl',q1,q2⟩:=ih (k + 1) acc nl _ (min lo bs.length) v (by omega) (by omega) hg2
   have hgF:bndF c s.node (p :: c.services.l.drop (k + 1)) = bndF c s.node (c.services.l.drop (k + 1)):=by simp [bndF,hb]
   rw [hgF]
   refine ⟨bs',lo',v',nl',?_,q2⟩
   rw [key]
   simp [q64_b0,hx,hw,hz,hfn,n1,hb,show ((k:Int) < c.services.l.length) from by omega]
   simpa using q1
  | true =>
   have hg2:=hg.lay [.cells (p.c.map .d),.cells [.d (u32 p.addr)]]
   have hsrc:getB (bs ++ [.cells (p.c.map .d),.cells [.d (u32 p.addr)]]) (bs.length + 1) = some [.d (u32 p.addr)]:=by
    simp only [getB]; rw [List.getElem?_append_right (by omega)]; simp
   obtain ⟨v2,bs2,f,a1,a2,a3,a6,a4,a5⟩:=hg2.app (by omega) hsrc
   have hd2:=hg2.d0
   obtain ⟨bs',lo',v',nl',q1,q2⟩:=ih (k + 1) (acc ++ [p.addr]) false _ (min (f (min lo bs.length)) D) v2 (by omega) (by simp; omega) a5
   have hgF:bndF c s.node (p :: c.services.l.drop (k + 1)) = p.addr :: bndF c s.node (c.services.l.drop (k + 1)):=by simp [bndF,hb]
   rw [hgF]
   refine ⟨bs',lo',v',nl',?_,by simpa using q2⟩
   have hd3:=fun ys=>getB_of (ys:=ys) hg.d0
   rw [key]
   simp [q64_b0,hx,hw,hz,hfn,n1,hb,hd3,a1,a3,a4,a6,hnu,put_v1,sub_v1,fillsE,show ((k:Int) < c.services.l.length) from by omega]
   simpa using q1
end
end Go.Proofs.YtmnfjejphmmddaaGreat
namespace Go.Proofs.YtmnfjejphmmddaaGreat
structure OfH (E:Calls'):Prop where
 h41:∀ c:Cfg,c.wf 1048576 -> c.wf big -> ∀ h,E 41 [c.v] h = some (bl (cfgMay c),h)
 h45:∀ c:Cfg,c.ok -> ∀ n h,E 45 [c.v,.d (u64 n)] h = some (.tup (match wayT c n with | some w=>[w.v,bl true] | none=>[way0.v,bl false]),h)
 h52:∀ (p:Pol) (x:Pod) h,E 52 [p.v,x.v] h = some (bl (holdsT p x.ns x.service),h)
 h90:∀ c:Cfg,c.ok -> ∀ h,E 90 [c.v] h = some (c.own.v,h)
 h117:∀ s:Sl Int,short s -> ∀ n h,E 117 [.d (s.d u32C),.d (u32 n)] h = some (bl (hasT s.l n),h)
 h136:∀ (bs:List Blk) (b lo n:Nat) (cap:Option Nat),b < bs.length -> ∀ d:Array Int,d.size = n -> n < 2 ^ 59 -> ∃ ys lo',E 136 [.row b 0 n cap 1] (Mz .u32 bs b d lo) = some (.tup [],Mr (bs ++ ys) b ((sortZ d.toList).map (iv .u32)) lo')
 h136n:∀ h,E 136 [nilV] h = some (.tup [],h)
 h137:∀ (zs:List Int) (b lo:Nat) (cap:Option Nat) (bs:List Blk),b < bs.length -> zs.length < 2 ^ 62 -> ∃ cur lo',E 137 [.row b 0 zs.length cap 1] (Mr bs b (zs.map (iv .u32)) lo) = some (.row b 0 (cmpL zs).length cap 1,Mr bs b cur lo') /\ cur.take (cmpL zs).length = (cmpL zs).map (iv .u32)
 h137n:∀ h,E 137 [nilV] h = some (nilV,h)
def Kp {α:Type} (cells:α -> List D) (z D:Nat) (nl:Bool) (l:List α) (bs:List Blk) (v:V):Prop :=
 (nl = true /\ l = [] /\ v = nilV) \/ (nl = false /\ ∃ B cap rest,8 <= B /\ B ≠ D /\ v = .row B 0 l.length cap z /\ getB bs B = some (flat (l.map cells) ++ rest))
theorem Kp.kept {α:Type} {cells:α -> List D} {z D:Nat} {nl:Bool} {l:List α} {bs:List Blk} {v:V} (h:Kp cells z D nl l bs v):KeptR cells z 8 nl l bs v:=by
 rcases h with h | ⟨h1,B,cap,rest,h2,_,h3,h4⟩
 · exact .inl h
 · exact .inr ⟨h1,B,cap,rest,h2,h3,h4⟩
theorem Kp.like {α:Type} {cells:α -> List D} {z D:Nat} {nl:Bool} {l:List α} {bs bs':List Blk} {v:V} (h:Kp cells z D nl l bs v) (ho:∀ x,8 <= x -> x ≠ D -> x < bs.length -> bs'[x]? = bs[x]?):Kp cells z D nl l bs' v:=by
 rcases h with h | ⟨h1,B,cap,rest,h2,h3,h4,h5⟩
 · exact .inl h
 · exact .inr ⟨h1,B,cap,rest,h2,h3,h4,getB_old h5 (ho B h2 h3 (getB_len h5))⟩
theorem Kp.of {α:Type} {cells:α -> List D} {z D n:Nat} {nl:Bool} {l:List α} {bs:List Blk} {v:V} (h:KeptR cells z n nl l bs v) (h8:8 <= n) (hD:D < n):Kp cells z D nl l bs v:=by
 rcases h with h | ⟨h1,B,cap,rest,h2,h3,h4⟩
 · exact .inl h
 · exact .inr ⟨h1,B,cap,rest,by omega,by omega,h3,h4⟩
theorem KeptR.cells {α:Type} {cells:α -> List D} {z n:Nat} {nl:Bool} {l:List α} {bs:List Blk} {v:V} (h:KeptR cells z n nl l bs v):v.cells = some [v]:=by
 rcases h with ⟨_,_,rfl⟩ | ⟨_,B,cap,rest,_,rfl,_⟩ <;> rfl
structure Vst (c:Cfg) (s:Scp) (D:Nat) (bs:List Blk) (v1 v2 v3 v4 v5:V):Prop where
 env:OfE c s bs
 b2:getB bs 2 = some [.d (.int .u64 0),nilV,nilV,nilV,nilV,nilV]
 d8:8 <= D
 d0:getB bs D = some (vcells c.epoch v1 v2 v3 v4 v5)
section
variable {c:Cfg} {s:Scp} {D:Nat} {bs:List Blk} {v1 v2 v3 v4 v5:V}
theorem Vst.grow (h:Vst c s D bs v1 v2 v3 v4 v5) {bs':List Blk} (ho:∀ x,x < bs.length -> bs'[x]? = bs[x]?):Vst c s D bs' v1 v2 v3 v4 v5 :=
 ⟨h.env.like fun x hx=>ho x (by have:=h.env.len; omega),getB_old h.b2 (ho 2 (by have:=h.env.len; omega)),h.d8,getB_old h.d0 (ho D (getB_len h.d0))⟩
theorem Vst.put (h:Vst c s D bs v1 v2 v3 v4 v5) (w1 w2 w3 w4 w5:V):Vst c s D (bs.set D (.cells (vcells c.epoch w1 w2 w3 w4 w5))) w1 w2 w3 w4 w5:=by
 have h8:=h.d8
 refine ⟨h.env.like fun x hx=>by rw [List.getElem?_set_ne (by omega)],getB_old h.b2 (by rw [List.getElem?_set_ne (by omega)]),h8,?_⟩
 unfold getB; rw [List.getElem?_set_self (getB_len h.d0)]
theorem Kp.step {α:Type} {cells:α -> List Go.Proofs.YtmnfjejphmmddaaGreat.D} {z:Nat} {nl:Bool} {l:List α} {v:V} (h:Kp cells z D nl l bs v) {bs':List Blk} (ho:∀ x,x < bs.length -> bs'[x]? = bs[x]?) (b:Blk):Kp cells z D nl l (bs'.set D b) v :=
 h.like fun x _ h2 h3=>by rw [List.getElem?_set_ne (by omega),ho x h3]
variable {E:Calls'} (H:OfH E)
include H
theorem Vsort {nl:Bool} {acc:List Int} {v:V} (h:Cv c s D nl acc bs v) (ha:acc.length < 2 ^ 59) (lo:Nat):∃ bs2 lo2,E 136 [v] ⟨bs,lo⟩ = some (.tup [],⟨bs2,lo2⟩) /\ Cv c s D nl (sortZ acc) bs2 v:=by
 have h7:=h.env.len
 have hd8:=h.d8
 have hD:=getB_len h.d0
 rcases h.is with ⟨h1,rfl,rfl⟩ | ⟨h1,b,cap,h2,h3,rfl,h4,h5⟩
 · refine ⟨bs,lo,H.h136n _,h.env,h.b2,h.d8,h.d0,.inl ⟨h1,List.length_eq_zero_iff.1 (by rw [sortZ,List.length_mergeSort]; rfl),rfl⟩⟩
 · have hbl:=getB_len h5
   have hM:Mz .u32 bs b ⟨acc⟩ lo = ⟨bs,lo⟩:=Mr_same h5
   obtain ⟨ys,lo',k⟩:=H.h136 bs b lo acc.length cap hbl ⟨acc⟩ rfl ha
   rw [hM] at k
   have hsl:(sortZ acc).length = acc.length:=by rw [sortZ,List.length_mergeSort]
   have hold:∀ x,x ≠ b -> x < bs.length -> (Mr (bs ++ ys) b ((sortZ acc).map (iv .u32)) lo').bs[x]? = bs[x]?:=fun x hx hl=>by
    simp only [Mr]; rw [List.getElem?_set_ne (by omega),List.getElem?_append_left hl]
   refine ⟨_,lo',k,h.env.like fun x hx=>hold x (by omega) (by omega),getB_old h.b2 (hold 2 (by omega) (by omega)),hd8,getB_old h.d0 (hold D (by omega) hD),.inr ⟨h1,b,cap,h2,h3,by rw [hsl],?_,?_⟩⟩
   · rcases h4 with ⟨h4,h6⟩ | ⟨h4,h6⟩
     · exact .inl ⟨h4,fun h0=>h6 (List.length_eq_zero_iff.1 (by rw [← hsl,h0]; rfl))⟩
     · exact .inr ⟨h4,List.length_eq_zero_iff.1 (by rw [hsl,h6]; rfl)⟩
   · have:getB (Mr (bs ++ ys) b ((sortZ acc).map (iv .u32)) lo').bs b = _:=Mr_get (by simp; omega)
     exact this
theorem Vcompact {nl:Bool} {acc:List Int} {v:V} (h:Cv c s D nl acc bs v) (ha:acc.length < 2 ^ 62) (lo:Nat) :
 ∃ v' bs2 lo2,E 137 [v] ⟨bs,lo⟩ = some (v',⟨bs2,lo2⟩) /\ Vst c s D bs2 v nilV nilV nilV nilV /\ Kp u32C 1 D nl (cmpL acc) bs2 v':=by
 have h7:=h.env.len
 have hd8:=h.d8
 have hD:=getB_len h.d0
 rcases h.is with ⟨h1,rfl,rfl⟩ | ⟨h1,b,cap,h2,h3,rfl,h4,h5⟩
 · exact ⟨nilV,bs,lo,H.h137n _,⟨h.env,h.b2,h.d8,h.d0⟩,.inl ⟨h1,rfl,rfl⟩⟩
 · have hbl:=getB_len h5
   have hM:Mr bs b (acc.map (iv .u32)) lo = ⟨bs,lo⟩:=Mr_same h5
   obtain ⟨cur,lo',k,hc⟩:=H.h137 acc b lo cap bs hbl ha
   rw [hM] at k
   have hold:∀ x,x ≠ b -> x < bs.length -> (Mr bs b cur lo').bs[x]? = bs[x]?:=fun x hx hl=>by
    simp only [Mr]; rw [List.getElem?_set_ne (by omega)]
   refine ⟨_,_,lo',k,⟨h.env.like fun x hx=>hold x (by omega) (by omega),getB_old h.b2 (hold 2 (by omega) (by omega)),hd8,getB_old h.d0 (hold D (by omega) hD)⟩,.inr ⟨h1,b,cap,cur.drop (cmpL acc).length,h2,h3,rfl,?_⟩⟩
   have hg:getB (Mr bs b cur lo').bs b = _:=Mr_get hbl
   refine hg.trans ?_
   rw [u32_flat]
   have:u32s (cmpL acc) = cur.take (cmpL acc).length:=hc.symm
   rw [this,List.take_append_drop]
theorem Vk1 (h:Vst c s D bs v1 v2 v3 v4 v5) (hc:c.ok) (hs:short s.addrs) (lo:Nat) :
 ∃ r bs' lo',Sm E TV valV 138 [.d (c.pods.d Pod.c),.fn 139 [.ptr 7 0,.ptr 4 0,.ptr 6 0]] ⟨bs,lo⟩ = some (r,⟨bs',lo'⟩) /\ bs.length <= bs'.length /\ (∀ x,x < bs.length -> bs'[x]? = bs[x]?) /\ KeptR Pod.c 7 bs.length c.pods.nl (ofPods c s) bs' r :=
 S_keep (E:=E) (cells:=Pod.c) vc106 vd106 vc105 vd105 vc100 vd100 vc242 vd242 vc138 vd138 (fun _=>rfl) (by decide) rfl (by decide) hc.1 (q:=podIn c s) fun e _ bs2 lo2 h1 h2 =>
  V139 H.h45 H.h117 (h:=⟨bs2,lo2⟩) (h.grow (by simpa using h2)).env hc hs e
theorem Vk2 (h:Vst c s D bs v1 v2 v3 v4 v5) (hc:c.ok) (hs:short s.addrs) {nl:Bool} (hr:Kp Pod.c 7 D nl (ofPods c s) bs v2) (lo:Nat) :
 ∃ r bs' lo',Sm E TV valV 141 [.d (c.services.d Svc.c),.fn 142 [.ptr 4 0,.ptr 5 0,.ptr D 0]] ⟨bs,lo⟩ = some (r,⟨bs',lo'⟩) /\ bs.length <= bs'.length /\ (∀ x,x < bs.length -> bs'[x]? = bs[x]?) /\ KeptR Svc.c 5 bs.length c.services.nl (ofSvcs c s) bs' r:=by
 have hl:(ofPods c s).length < 2 ^ 62:=by have:=List.length_filter_le (podIn c s) c.pods.l; have:=hc.1.lt; simp only [ofPods]; omega
 exact S_keep (E:=E) (cells:=Svc.c) vc186 vd186 vc243 vd243 vc103 vd103 vc244 vd244 vc141 vd141 (fun _=>rfl) (by decide) rfl (by decide) hc.2.1 (q:=svcIn c s) fun e _ bs2 lo2 h1 h2=>by
  have hg:=h.grow (bs':=bs2) (by simpa using h2)
  exact V142 H.h45 H.h117 (h:=⟨bs2,lo2⟩) hg.env hc hs hg.d0 hl ((hr.like fun x _ _ h3=>h2 x h3).kept.rowIs fun _=>rfl) e
omit H in
theorem Vk3 (h:Vst c s D bs v1 v2 v3 v4 v5) (hc:c.ok) {nl:Bool} (hr:Kp Svc.c 5 D nl (ofSvcs c s) bs v3) (lo:Nat) :
 ∃ r bs' lo',Sm E TV valV 145 [.d (c.bound.d Way.c),.fn 146 [.ptr 3 0,.ptr D 0]] ⟨bs,lo⟩ = some (r,⟨bs',lo'⟩) /\ bs.length <= bs'.length /\ (∀ x,x < bs.length -> bs'[x]? = bs[x]?) /\ KeptR Way.c 2 bs.length c.bound.nl (ofWays c s) bs' r:=by
 have hl:(ofSvcs c s).length < 2 ^ 62:=by have:=List.length_filter_le (svcIn c s) c.services.l; have:=hc.2.1.lt; simp only [ofSvcs]; omega
 exact S_keep (E:=E) (cells:=Way.c) vc187 vd187 vc246 vd246 vc109 vd109 vc247 vd247 vc145 vd145 (fun _=>rfl) (by decide) rfl (by decide) hc.2.2.1 (q:=wayIn c s) fun e _ bs2 lo2 h1 h2=>by
  have hg:=h.grow (bs':=bs2) (by simpa using h2)
  exact V146 (h:=⟨bs2,lo2⟩) hg.env hg.d0 hl ((hr.like fun x _ _ h3=>h2 x h3).kept.rowIs fun _=>rfl) e
theorem Vk4 (h:Vst c s D bs v1 v2 v3 v4 v5) (hc:c.ok) (lo:Nat) :
 ∃ r bs' lo',Sm E TV valV 148 [.d (c.policies.d Pol.c),.fn 149 [.ptr 0 0,.ptr 7 0]] ⟨bs,lo⟩ = some (r,⟨bs',lo'⟩) /\ bs.length <= bs'.length /\ (∀ x,x < bs.length -> bs'[x]? = bs[x]?) /\ KeptR Pol.c 5 bs.length c.policies.nl (c.policies.l.filter (polIn c s.node)) bs' r :=
 S_keep (E:=E) (cells:=Pol.c) vc188 vd188 vc248 vd248 vc339 vd339 vc249 vd249 vc148 vd148 (fun _=>rfl) (by decide) rfl (by decide) hc.2.2.2.1 (q:=polIn c s.node) fun e _ bs2 lo2 h1 h2 =>
  V149 H.h45 H.h52 (h:=⟨bs2,lo2⟩) (h.grow (by simpa using h2)).env hc e
end
end Go.Proofs.YtmnfjejphmmddaaGreat
namespace Go.Proofs.YtmnfjejphmmddaaGreat
def vw0:Vw:=⟨0,⟨true,[]⟩,⟨true,[]⟩,⟨true,[]⟩,⟨true,[]⟩,⟨true,[]⟩⟩
theorem V64n {E:Calls'} (H:OfH E) {c:Cfg} (hc:c.wf 1048576) (hcb:c.wf big) {s:Scp} (hs:short s.addrs) (hno:(cfgMay c && scopeMay s) = false) (h:Hp) :
 Sm E TV valV 64 [c.v,s.v] h = some (.tup [vw0.v,.d (i64 1)],h):=by
 have e1:∀ h,Sm E TV valV 41 [c.v] h = some (bl (cfgMay c),h):=fun h=>by rw [Sm_ext vc41]; exact H.h41 c hc hcb h
 have e2:=fun h=>V67 (E:=E) H.h117 hs h
 have hw:cellsV = cellsV:=rfl
 rw [Sm_v vc64 vd64]
 cases m1:cfgMay c with
 | false=>simp (decide:=true) [Bd_mk,q64,e1,m1]; rfl
 | true =>
  have m2:scopeMay s = false:=by simpa [m1] using hno
  simp (decide:=true) [Bd_mk,q64,e1,e2,m1,m2]; rfl
theorem V64 {E:Calls'} (H:OfH E) {c:Cfg} (hc:c.wf 1048576) (hcb:c.wf big) (hok:c.ok) (hoo:c.own.ok) {s:Scp} (hs:short s.addrs) (h1:cfgMay c = true) (h2:scopeMay s = true) (hsz:s.addrs.l.length + c.services.l.length <= big) :
 ∃ nl,(nl = true -> coverT c s = []) /\ ∀ h,Sm E TV valV 64 [c.v,s.v] h = some (.tup [(ofT c s ⟨nl,coverT c s⟩).v,.d (i64 0)],h):=by
 have e1:∀ h,Sm E TV valV 41 [c.v] h = some (bl true,h):=fun h=>by rw [Sm_ext vc41,← h1]; exact H.h41 c hc hcb h
 have e2:∀ h,Sm E TV valV 67 [s.v] h = some (bl true,h):=fun h=>by rw [← h2]; exact V67 (E:=E) H.h117 hs h
 have e3:∀ h,Sm E TV valV 90 [c.v] h = some (c.own.v,h):=fun h=>by rw [Sm_ext vc90]; exact H.h90 c hok h
 have n136:∀ args h,Sm E TV valV 136 args h = E 136 args h:=fun args h=>by rw [Sm_ext vc136]
 have n137:∀ args h,Sm E TV valV 137 args h = E 137 args h:=fun args h=>by rw [Sm_ext vc137]
 have hz:∀ x:Cfg,put (c.c.map V.d) 0 (x.c.map V.d) = some (x.c.map V.d):=fun _=>rfl
 have hfc:∀ f caps,(V.fn f caps).cells = some [V.fn f caps]:=fun _ _=>rfl
 obtain ⟨D,v,bs,x35,x33,x32,x31,x30,p1,p2⟩:=Vpre (E:=E) (c:=c.own) hs (.fn 134 [.ptr 1 0,.ptr 6 0,.ptr 5 0]) (.fn 128 [.ptr 1 0]) (.fn 129 [.ptr 1 0]) (.fn 130 [.ptr 0 0,.ptr 3 0]) (.fn 131 [.ptr 0 0]) c.own.v (ag c.c) (.d (.bool false)) (.d (.bool false)) (bl true) (ag s.c) (.d (.bool false)) (.d (.bool false)) (bl true) (ag c.c) (.d (.int .i64 0)) (.ptr 2 0) (.ptr 3 0) (.ptr 4 0) (.ptr 5 0) (.ptr 6 0) (.ptr 7 0) (ag c.c) (ag s.c)
 simp only [regV,base8,nilV] at p1
 obtain ⟨bs1,lo1,v',nl,l1,l2⟩:=L64 H.h45 (s:=s) hoo c.services.l.length 0 s.addrs.l s.addrs.nl bs 0 v (by simp [Cfg.own]) (by omega) p2
 simp only [List.drop_zero] at l2
 rw [show ((0:Nat):Int) = 0 from rfl] at l1
 have hlen:(s.addrs.l ++ bndF c.own s.node c.own.services.l).length < 2 ^ 59:=by
  have:(bndF c.own s.node c.own.services.l).length <= c.services.l.length:=by
   simp only [bndF,List.length_map]; exact List.length_filter_le _ _
  rw [List.length_append]
  have hb:big < 2 ^ 59:=by decide
  omega
 obtain ⟨bs2,lo2,s1,s2⟩:=Vsort H l2 hlen lo1
 obtain ⟨w1,bs3,lo3,c1,c2,c3⟩:=Vcompact H s2 (by rw [sortZ,List.length_mergeSort]; omega) lo2
 refine ⟨nl,?_,?_⟩
 · intro hnl
   rcases c3 with ⟨_,h0,_⟩ | ⟨h0,_⟩
   · exact h0
   · rw [hnl] at h0; cases h0
 have d3:=c2.put w1 nilV nilV nilV nilV
 have k3:=c3.step (fun _ _=>rfl) (.cells (vcells c.own.epoch w1 nilV nilV nilV nilV))
 obtain ⟨w2,bs4,lo4,g1,g2,g3,g4⟩:=Vk1 H d3 hoo hs (min lo3 D)
 have d4:=(d3.grow g3).put w1 w2 nilV nilV nilV
 have k4:=k3.step g3 (.cells (vcells c.own.epoch w1 w2 nilV nilV nilV))
 have hD3:=getB_len d3.d0
 have hd8:=d3.d8
 have a4:=(Kp.of g4 (by omega) hD3).step (fun _ _=>rfl) (.cells (vcells c.own.epoch w1 w2 nilV nilV nilV))
 obtain ⟨w3,bs5,lo5,i1,i2,i3,i4⟩:=Vk2 H d4 hoo hs a4 (min lo4 D)
 have d5:=(d4.grow i3).put w1 w2 w3 nilV nilV
 have hD4:=getB_len d4.d0
 have k5:=k4.step i3 (.cells (vcells c.own.epoch w1 w2 w3 nilV nilV))
 have a5:=a4.step i3 (.cells (vcells c.own.epoch w1 w2 w3 nilV nilV))
 have b5:=(Kp.of i4 (by omega) hD4).step (fun _ _=>rfl) (.cells (vcells c.own.epoch w1 w2 w3 nilV nilV))
 obtain ⟨w4,bs6,lo6,j1,j2,j3,j4⟩:=Vk3 (E:=E) d5 hoo b5 (min lo5 D)
 have d6:=(d5.grow j3).put w1 w2 w3 w4 nilV
 have hD5:=getB_len d5.d0
 have k6:=k5.step j3 (.cells (vcells c.own.epoch w1 w2 w3 w4 nilV))
 have a6:=a5.step j3 (.cells (vcells c.own.epoch w1 w2 w3 w4 nilV))
 have b6:=b5.step j3 (.cells (vcells c.own.epoch w1 w2 w3 w4 nilV))
 have c6:=(Kp.of j4 (by omega) hD5).step (fun _ _=>rfl) (.cells (vcells c.own.epoch w1 w2 w3 w4 nilV))
 obtain ⟨w5,bs7,lo7,m1,m2,m3,m4⟩:=Vk4 H d6 hoo (min lo6 D)
 have d7:=(d6.grow m3).put w1 w2 w3 w4 w5
 have hD6:=getB_len d6.d0
 have k7:=k6.step m3 (.cells (vcells c.own.epoch w1 w2 w3 w4 w5))
 have a7:=a6.step m3 (.cells (vcells c.own.epoch w1 w2 w3 w4 w5))
 have b7:=b6.step m3 (.cells (vcells c.own.epoch w1 w2 w3 w4 w5))
 have c7:=c6.step m3 (.cells (vcells c.own.epoch w1 w2 w3 w4 w5))
 have e7:=(Kp.of m4 (by omega) hD6).step (fun _ _=>rfl) (.cells (vcells c.own.epoch w1 w2 w3 w4 w5))
 have hfin:∀ lo,cellsV ⟨((bs7.set D (.cells (vcells c.own.epoch w1 w2 w3 w4 w5))).set 2 (.cells (vcells c.own.epoch w1 w2 w3 w4 w5))),lo⟩ (vcells c.own.epoch w1 w2 w3 w4 w5) = some (ofT c s ⟨nl,coverT c s⟩).c:=by
  intro lo
  have st:∀ x,8 <= x -> x ≠ D -> x < (bs7.set D (Blk.cells (vcells c.own.epoch w1 w2 w3 w4 w5))).length -> ((bs7.set D (Blk.cells (vcells c.own.epoch w1 w2 w3 w4 w5))).set 2 (.cells (vcells c.own.epoch w1 w2 w3 w4 w5)))[x]? = (bs7.set D (Blk.cells (vcells c.own.epoch w1 w2 w3 w4 w5)))[x]?:=fun x hx _ _=>by rw [List.getElem?_set_ne (by omega)]
  have r1:=KeptR.dat (cells:=u32C) (z:=1) (fun _=>rfl) (k7.like st).kept lo 7
  have r2:=KeptR.dat (cells:=Pod.c) (z:=7) (fun _=>rfl) (a7.like st).kept lo 7
  have r3:=KeptR.dat (cells:=Svc.c) (z:=5) (fun _=>rfl) (b7.like st).kept lo 7
  have r4:=KeptR.dat (cells:=Way.c) (z:=2) (fun _=>rfl) (c7.like st).kept lo 7
  have r5:=KeptR.dat (cells:=Pol.c) (z:=5) (fun _=>rfl) (e7.like st).kept lo 7
  simp only [vcells] at r1 r2 r3 r4 r5 ⊢
  simp only [cellsV,List.mapM_cons,List.mapM_nil,r1,r2,r3,r4,r5]
  rfl
 have sv0:∀ e v1 v2 v3 v4 v5,sub (vcells e v1 v2 v3 v4 v5) 0 6 = some (vcells e v1 v2 v3 v4 v5):=fun _ _ _ _ _ _=>rfl
 have sv1:∀ e v1 v2 v3 v4 v5,sub (vcells e v1 v2 v3 v4 v5) 1 1 = some [v1]:=fun _ _ _ _ _ _=>rfl
 have pu1:∀ e v1 v2 v3 v4 v5 w,put (vcells e v1 v2 v3 v4 v5) 1 [w] = some (vcells e w v2 v3 v4 v5):=fun _ _ _ _ _ _ _=>rfl
 have pu2:∀ e v1 v2 v3 v4 v5 w,put (vcells e v1 v2 v3 v4 v5) 2 [w] = some (vcells e v1 w v3 v4 v5):=fun _ _ _ _ _ _ _=>rfl
 have pu3:∀ e v1 v2 v3 v4 v5 w,put (vcells e v1 v2 v3 v4 v5) 3 [w] = some (vcells e v1 v2 w v4 v5):=fun _ _ _ _ _ _ _=>rfl
 have pu4:∀ e v1 v2 v3 v4 v5 w,put (vcells e v1 v2 v3 v4 v5) 4 [w] = some (vcells e v1 v2 v3 w v5):=fun _ _ _ _ _ _ _=>rfl
 have pu5:∀ e v1 v2 v3 v4 v5 w,put (vcells e v1 v2 v3 v4 v5) 5 [w] = some (vcells e v1 v2 v3 v4 w):=fun _ _ _ _ _ _ _=>rfl
 have pz:∀ e v1 v2 v3 v4 v5,put [V.d (.int .u64 0),.d (.slice true []),.d (.slice true []),.d (.slice true []),.d (.slice true []),.d (.slice true [])] 0 (vcells e v1 v2 v3 v4 v5) = some (vcells e v1 v2 v3 v4 v5):=fun _ _ _ _ _ _=>rfl
 have vl:∀ e v1 v2 v3 v4 v5,(vcells e v1 v2 v3 v4 v5).length = 6:=fun _ _ _ _ _ _=>rfl
 have u1:=k7.kept.nu.1
 have u2:=a7.kept.nu.1
 have u3:=b7.kept.nu.1
 have u4:=c7.kept.nu.1
 have u5:=e7.kept.nu.1
 have o1:=k7.kept.cells
 have o2:=a7.kept.cells
 have o3:=b7.kept.cells
 have o4:=c7.kept.cells
 have o5:=e7.kept.cells
 have uv:=l2.is.nu
 have q0:okV v' = true:=by rcases l2.is with ⟨_,_,rfl⟩ | ⟨_,b,cap,_,_,rfl,_⟩ <;> rfl
 have q1:=k7.kept.nu.2
 have q2:=a7.kept.nu.2
 have q3:=b7.kept.nu.2
 have q4:=c7.kept.nu.2
 have q5:=e7.kept.nu.2
 have y1:=l2.d0
 have y2:=s2.d0
 have y3:=c2.d0
 have y4:=(d3.grow g3).d0
 have y5:=(d4.grow i3).d0
 have y6:=(d5.grow j3).d0
 have y7:=(d6.grow m3).d0
 have y8:=d7.d0
 have y9:=d7.b2
 have y10:getB ((bs7.set D (.cells (vcells c.own.epoch w1 w2 w3 w4 w5))).set 2 (.cells (vcells c.own.epoch w1 w2 w3 w4 w5))) 2 = some (vcells c.own.epoch w1 w2 w3 w4 w5):=by
  have:=getB_len y9
  unfold getB; rw [List.getElem?_set_self this]
 have ht3:=d3.env.b0
 have ht4:=d4.env.b0
 have ht5:=d5.env.b0
 have ht6:=d6.env.b0
 have hpb:=p2.env.b0
 have hlc:(ofT c s ⟨nl,coverT c s⟩).v = .agg ((ofT c s ⟨nl,coverT c s⟩).c.map .d):=rfl
 have hz8:∀ x:Cfg,x.c.length = 8:=fun _=>rfl
 intro h
 rw [Sm_v vc64 vd64]
 simp (decide:=true) [Bd_mk,q64,e1,e2,e3,hz,hfc,p1,hpb]
 rw [Cd_keep]
 simp (decide:=true) [l1,y1,y2,y3,y4,y5,y6,y7,y8,y9,y10,ht3,ht4,ht5,ht6,sv0,sv1,pu1,pu2,pu3,pu4,pu5,pz,vl,u1,u2,u3,u4,u5,o1,o2,o3,o4,o5,uv,q0,q1,q2,q3,q4,q5,n136,n137,s1,c1,g1,i1,j1,m1,hfin]
end Go.Proofs.YtmnfjejphmmddaaGreat
namespace Go.Proofs.YtmnfjejphmmddaaGreat
theorem ofT_ok {c:Cfg} (hc:c.ok) (hoo:c.own.ok) {s:Scp} {nl:Bool} (hn:nl = true -> coverT c s = []) (hsz:s.addrs.l.length + c.services.l.length <= big):(ofT c s ⟨nl,coverT c s⟩).ok:=by
 have f1:=List.length_filter_le (podIn c s) c.pods.l
 have f2:=List.length_filter_le (svcIn c s) c.services.l
 have f3:=List.length_filter_le (wayIn c s) c.bound.l
 have f4:=List.length_filter_le (polIn c s.node) (c.policies.l.map Pol.own)
 rw [List.length_map] at f4
 refine ⟨⟨?_,hn⟩,⟨?_,fun h=>?_⟩,⟨?_,fun h=>?_⟩,⟨?_,fun h=>?_⟩,⟨?_,fun h=>?_⟩,fun p hp=>hoo.2.2.2.2 p (List.mem_filter.1 hp).1⟩
 · have h1:=cmpL_len (sortZ (s.addrs.l ++ (c.services.l.filter (bndT c s.node)).map Svc.addr))
   have h2:(sortZ (s.addrs.l ++ (c.services.l.filter (bndT c s.node)).map Svc.addr)).length = s.addrs.l.length + (c.services.l.filter (bndT c s.node)).length:=by
    rw [sortZ,List.length_mergeSort,List.length_append,List.length_map]
   have h3:=List.length_filter_le (bndT c s.node) c.services.l
   have:(coverT c s).length = (cmpL (sortZ (s.addrs.l ++ (c.services.l.filter (bndT c s.node)).map Svc.addr))).length:=rfl
   show (coverT c s).length <= big
   omega
 · exact Nat.le_trans f1 hc.1.1
 · show c.pods.l.filter _ = []
   rw [hc.1.2 h]; rfl
 · exact Nat.le_trans f2 hc.2.1.1
 · show c.services.l.filter _ = []
   rw [hc.2.1.2 h]; rfl
 · exact Nat.le_trans f3 hc.2.2.1.1
 · show c.bound.l.filter _ = []
   rw [hc.2.2.1.2 h]; rfl
 · exact Nat.le_trans f4 hc.2.2.2.1.1
 · show (c.policies.l.map Pol.own).filter _ = []
   rw [hc.2.2.2.1.2 h]; rfl
end Go.Proofs.YtmnfjejphmmddaaGreat
namespace Go.Proofs.YtmnfjejphmmddaaGreat
section
variable {E:Calls'} {T:FuncId -> Option QF} {val:FuncId -> Bool}
theorem rsg_loop {α:Type} {cells:α -> List D} {z:Nat} (hz:∀ x,(cells x).length = z) {s:Sl α} (hs:s.l.length < 2 ^ 62) {most:Int} {f:FuncId} {g:α -> Int} (hf:∀ e ∈ s.l,∀ h,Sm E T val f [ag (cells e)] h = some (.d (u64 (g e)),h)) (hr:risesL (s.l.map g) = true):∀ (m i:Nat),i + m = s.l.length -> 1 <= i →
 Cd E T val (.loop [0,1,2,9,10] (rsgB z)) [(0,.d (s.d cells)),(1,.d (i64 most)),(2,.fn f []),(9,.d (i64 s.l.length)),(10,.d (i64 i))] ⟨[],0⟩ = some (.exit 0,[(0,.d (s.d cells)),(1,.d (i64 most))],⟨[],0⟩):=by
 intro m
 have key:=Cd_round (E:=E) (T:=T) (val:=val) [0,1,2,9,10] (rsgB z)
 generalize Cd E T val (.loop [0,1,2,9,10] (rsgB z)) = W at key ⊢
 induction m with
 | zero =>
  intro i hi h1
  rw [key]
  simp [rsgB,show ¬ ((i:Int) < s.l.length) from by omega]
 | succ m ih =>
  intro i hi h1
  have hlt:i < s.l.length:=by omega
  have hg:=List.pairwise_iff_getElem.1 (risesL_pair hr) (i - 1) (i - 1 + 1) (by simp; omega) (by simp; omega) (by omega)
  have hs1:i - 1 + 1 = i:=by omega
  simp only [hs1,List.getElem_map] at hg
  have hp1:=fun h=>ix_data (cells:=cells) hz hlt (kd:=.i64) (h:=h)
  have hp0:=fun h=>ix_data (cells:=cells) hz (show i - 1 < s.l.length by omega) (kd:=.i64) (h:=h)
  have c1:=hf _ (List.getElem_mem hlt)
  have c0:=hf _ (List.getElem_mem (show i - 1 < s.l.length by omega))
  have hw:=int_next hlt hs
  have hwm:IntKind.wrap .i64 ((i:Int) - 1) = ((i - 1:Nat):Int):=by rw [wrap64] <;> omega
  have hpos:0 < i:=h1
  have hih:=ih (i + 1) (by omega) (by omega)
  rw [key]
  generalize s.l[i] = y at *
  generalize s.l[i - 1] = x at *
  have hsx:=sub_all (hz x)
  have hsy:=sub_all (hz y)
  simp (decide:=true) [rsgB,hp1,hp0,hsx,hsy,hwm,hw,hpos,c0,c1,hlt,hg,openA,opDE_call,noTr,show ¬ (g x >= g y) from by omega]
  simpa using hih
theorem S_rsg {α:Type} {cells:α -> List D} {z:Nat} {id:FuncId} (ht:T id = some (rsgQ z)) (hv:val id = true) (hz:∀ x,(cells x).length = z) {s:Sl α} (hs:s.l.length < 2 ^ 62) {most:Int} {f:FuncId} {g:α -> Int} (hf:∀ e ∈ s.l,∀ h,Sm E T val f [ag (cells e)] h = some (.d (u64 (g e)),h)) (hr:risK g s.l most = true) (h:Hp) :
 Sm E T val id [.d (s.d cells),.d (i64 most),.fn f []] h = some (bl true,h):=by
 simp only [risK,Bool.and_eq_true,decide_eq_true_eq] at hr
 rw [Sm_v ht hv]
 have hfr:frz h (.fn f []) = some (.fn f []):=rfl
 have key:=Cd_round (E:=E) (T:=T) (val:=val) [0,1,2,9,10] (rsgB z)
 have hl:=rsg_loop (E:=E) (T:=T) (val:=val) hz hs (most:=most) hf hr.1
 simp [Bd_mk,rsgQ,hfr]
 rw [Cd_keep]
 simp only [keepA_cons,keepA_nil]
 simp
 generalize Cd E T val (.loop [0,1,2,9,10] (rsgB z)) = W at key hl ⊢
 have hle:=hr.2
 by_cases h0:s.l = []
 · rw [key]
   simp [h0] at hle
   simp [rsgB,h0,hle,pureV]
 · have hpos:0 < s.l.length:=List.length_pos_iff.2 h0
   have h1:=hl (s.l.length - 1) 1 (by omega) (by omega)
   simp at h1
   rw [key]
   have hw:=int_next hpos hs
   simp at hw
   simp (decide:=true) [rsgB,openA,noTr,hpos,hw,h1,hle,pureV]
end
def tabG:List (Nat × QF):=[(14,q14),(75,q75),(162,q162),(132,q132),(143,q143),(255,q255),(261,q261),(239,q239),(245,q245),(340,q340),(292,q292),(100,q100),(103,q103),(109,q109),(339,q339),(253,q253),(254,q254),(256,q256),(262,q262),(257,q257),(258,q258),(259,q259),(260,q260),(166,q166),(168,q168),(170,q170),(172,q172)]
def TG:FuncId -> Option QF:=lookT tabG
def valG (f:FuncId):Bool:=[14,75,162,253,254,256,262,257,258,259,260,166,168,170,172].any fun n=>Nat.beq n f
theorem g14:TG 14 = some (q14):=by kernel_rfl
theorem e14:valG 14 = true:=by kernel_rfl
theorem g75:TG 75 = some (q75):=by kernel_rfl
theorem e75:valG 75 = true:=by kernel_rfl
theorem g162:TG 162 = some (q162):=by kernel_rfl
theorem e162:valG 162 = true:=by kernel_rfl
theorem g132:TG 132 = some (someQ 239):=by kernel_rfl
theorem e132:valG 132 = false:=by kernel_rfl
theorem g143:TG 143 = some (someQ 245):=by kernel_rfl
theorem e143:valG 143 = false:=by kernel_rfl
theorem g255:TG 255 = some (someQ 340):=by kernel_rfl
theorem e255:valG 255 = false:=by kernel_rfl
theorem g261:TG 261 = some (someQ 292):=by kernel_rfl
theorem e261:valG 261 = false:=by kernel_rfl
theorem g239:TG 239 = some (anyQ 103):=by kernel_rfl
theorem e239:valG 239 = false:=by kernel_rfl
theorem g245:TG 245 = some (anyQ 100):=by kernel_rfl
theorem e245:valG 245 = false:=by kernel_rfl
theorem g340:TG 340 = some (anyQ 109):=by kernel_rfl
theorem e340:valG 340 = false:=by kernel_rfl
theorem g292:TG 292 = some (anyQ 339):=by kernel_rfl
theorem e292:valG 292 = false:=by kernel_rfl
theorem g100:TG 100 = some (idxQ 7):=by kernel_rfl
theorem e100:valG 100 = false:=by kernel_rfl
theorem g103:TG 103 = some (idxQ 5):=by kernel_rfl
theorem e103:valG 103 = false:=by kernel_rfl
theorem g109:TG 109 = some (idxQ 2):=by kernel_rfl
theorem e109:valG 109 = false:=by kernel_rfl
theorem g339:TG 339 = some (idxQ 5):=by kernel_rfl
theorem e339:valG 339 = false:=by kernel_rfl
theorem g253:TG 253 = some (q253):=by kernel_rfl
theorem e253:valG 253 = true:=by kernel_rfl
theorem g254:TG 254 = some (q254):=by kernel_rfl
theorem e254:valG 254 = true:=by kernel_rfl
theorem g256:TG 256 = some (q256):=by kernel_rfl
theorem e256:valG 256 = true:=by kernel_rfl
theorem g262:TG 262 = some (q262):=by kernel_rfl
theorem e262:valG 262 = true:=by kernel_rfl
theorem g257:TG 257 = some (rsgQ 7):=by kernel_rfl
theorem e257:valG 257 = true:=by kernel_rfl
theorem g258:TG 258 = some (rsgQ 5):=by kernel_rfl
theorem e258:valG 258 = true:=by kernel_rfl
theorem g259:TG 259 = some (rsgQ 2):=by kernel_rfl
theorem e259:valG 259 = true:=by kernel_rfl
theorem g260:TG 260 = some (rsgQ 5):=by kernel_rfl
theorem e260:valG 260 = true:=by kernel_rfl
theorem g166:TG 166 = some (q166):=by kernel_rfl
theorem e166:valG 166 = true:=by kernel_rfl
theorem g168:TG 168 = some (q168):=by kernel_rfl
theorem e168:valG 168 = true:=by kernel_rfl
theorem g170:TG 170 = some (q170):=by kernel_rfl
theorem e170:valG 170 = true:=by kernel_rfl
theorem g172:TG 172 = some (q172):=by kernel_rfl
theorem e172:valG 172 = true:=by kernel_rfl
theorem g31:TG 31 = none:=by kernel_rfl
theorem g43:TG 43 = none:=by kernel_rfl
theorem g44:TG 44 = none:=by kernel_rfl
theorem g45:TG 45 = none:=by kernel_rfl
theorem g50:TG 50 = none:=by kernel_rfl
theorem g63:TG 63 = none:=by kernel_rfl
theorem g64:TG 64 = none:=by kernel_rfl
theorem g71:TG 71 = none:=by kernel_rfl
theorem g73:TG 73 = none:=by kernel_rfl
theorem g154:TG 154 = none:=by kernel_rfl
theorem g263:TG 263 = none:=by kernel_rfl
section
variable {E:Calls'}
theorem G166 (p:Pod) (h:Hp):Sm E TG valG 166 [ag p.c] h = some (.d (u64 p.uid),h):=by rw [Sm_v g166 e166]; simp [Bd_mk,q166]
theorem G168 (p:Svc) (h:Hp):Sm E TG valG 168 [ag p.c] h = some (.d (u64 p.id),h):=by rw [Sm_v g168 e168]; simp [Bd_mk,q168]
theorem G170 (p:Way) (h:Hp):Sm E TG valG 170 [ag p.c] h = some (.d (u64 p.id),h):=by rw [Sm_v g170 e170]; simp [Bd_mk,q170]
theorem G172 (p:Pol) (h:Hp):Sm E TG valG 172 [ag p.c] h = some (.d (u64 p.id),h):=by rw [Sm_v g172 e172]; simp [Bd_mk,q172]
theorem G253 (p:Pod) (hp:vpodBad p = false) (h:Hp):Sm E TG valG 253 [ag p.c] h = some (bl false,h):=by
 simp only [vpodBad,Bool.or_eq_false_iff,decide_eq_false_iff_not] at hp
 obtain ⟨a1,a2,a3,a4,a5,a6⟩:=hp
 rw [Sm_v g253 e253]
 simp (decide:=true) [Bd_mk,q253,a1,a2,a3,a4,a5,a6]
theorem G254 (p:Svc) (hp:vsvcBad p = false) (h:Hp):Sm E TG valG 254 [ag p.c] h = some (bl false,h):=by
 simp only [vsvcBad,Bool.or_eq_false_iff,decide_eq_false_iff_not] at hp
 obtain ⟨a1,a2,a3⟩:=hp
 rw [Sm_v g254 e254]
 simp (decide:=true) [Bd_mk,q254,a1,a2,a3]
theorem G256 (p:Way) (hp:vwayBad p = false) (h:Hp):Sm E TG valG 256 [ag p.c] h = some (bl false,h):=by
 simp only [vwayBad,Bool.or_eq_false_iff,decide_eq_false_iff_not] at hp
 rw [Sm_v g256 e256]
 simp (decide:=true) [Bd_mk,q256,hp.1,hp.2]
variable (h154:∀ s:Sl Int,short s -> ∀ (most:Int) h,E 154 [.d (s.d u32C),.d (i64 most)] h = some (bl (coversT s.l most),h))
 (h263:∀ p:Pol,p.wf big -> ∀ h,E 263 [ag p.c] h = some (bl (polMay p),h))
include h263 in
theorem G262 (p:Pol) (hw:p.wf big) (hp:polMay p = true) (h:Hp):Sm E TG valG 262 [ag p.c] h = some (bl false,h):=by
 have m:∀ h,Sm E TG valG 263 [ag p.c] h = some (bl (polMay p),h):=fun h=>by rw [Sm_ext g263]; exact h263 p hw h
 rw [Sm_v g262 e262]
 simp (decide:=true) [Bd_mk,q262,m,hp]
theorem any_no {α:Type} (l:List α):l.any (fun _=>false) = false:=by simp
include h154 h263 in
theorem G75 (v:Vw) (hv:v.ok) (hw:∀ p ∈ v.policies.l,p.wf big) (hm:vwMay v = true) (h:Hp):Sm E TG valG 75 [v.v] h = some (bl true,h):=by
 simp only [vwMay,thingsT,oddT,Bool.and_eq_true,Bool.not_eq_true',Bool.or_eq_false_iff,decide_eq_true_eq,List.any_eq_false,Bool.not_eq_true] at hm
 obtain ⟨m1,m2,⟨⟨m3,m4,m5⟩,m6,m7,m8,m9⟩,m10⟩:=hm
 have k1:∀ h,Sm E TG valG 154 [.d (v.covers.d u32C),.d (i64 38)] h = some (bl true,h):=fun h=>by rw [Sm_ext g154,h154 _ hv.1 38 h,m2]
 have a1:∀ h,Sm E TG valG 143 [.d (v.pods.d Pod.c),.fn 253 []] h = some (bl false,h):=fun h=>by
  rw [← any_no v.pods.l]
  exact S_some g143 e143 rfl rfl (S_any Pod.c (z:=7) g100 e100 g245 e245 (RowIs.of (cells:=Pod.c) (fun _=>rfl) _) hv.2.1.lt fun e he lo=>G253 e (m3 e he) _)
 have a2:∀ h,Sm E TG valG 132 [.d (v.services.d Svc.c),.fn 254 []] h = some (bl false,h):=fun h=>by
  rw [← any_no v.services.l]
  exact S_some g132 e132 rfl rfl (S_any Svc.c (z:=5) g103 e103 g239 e239 (RowIs.of (cells:=Svc.c) (fun _=>rfl) _) hv.2.2.1.lt fun e he lo=>G254 e (m4 e he) _)
 have a3:∀ h,Sm E TG valG 255 [.d (v.bound.d Way.c),.fn 256 []] h = some (bl false,h):=fun h=>by
  rw [← any_no v.bound.l]
  exact S_some g255 e255 rfl rfl (S_any Way.c (z:=2) g109 e109 g340 e340 (RowIs.of (cells:=Way.c) (fun _=>rfl) _) hv.2.2.2.1.lt fun e he lo=>G256 e (m5 e he) _)
 have a4:∀ h,Sm E TG valG 261 [.d (v.policies.d Pol.c),.fn 262 []] h = some (bl false,h):=fun h=>by
  rw [← any_no v.policies.l]
  exact S_some g261 e261 rfl rfl (S_any Pol.c (z:=5) g339 e339 g292 e292 (RowIs.of (cells:=Pol.c) (fun _=>rfl) _) hv.2.2.2.2.1.lt fun e he lo=>G262 h263 e (hw e he) (by simpa using m10 e he) _)
 have b1:=fun h=>S_rsg (E:=E) g257 e257 (s:=v.pods) (cells:=Pod.c) (fun _=>rfl) hv.2.1.lt (fun e _ h=>G166 e h) m6 h
 have b2:=fun h=>S_rsg (E:=E) g258 e258 (s:=v.services) (cells:=Svc.c) (fun _=>rfl) hv.2.2.1.lt (fun e _ h=>G168 e h) m7 h
 have b3:=fun h=>S_rsg (E:=E) g259 e259 (s:=v.bound) (cells:=Way.c) (fun _=>rfl) hv.2.2.2.1.lt (fun e _ h=>G170 e h) m8 h
 have b4:=fun h=>S_rsg (E:=E) g260 e260 (s:=v.policies) (cells:=Pol.c) (fun _=>rfl) hv.2.2.2.2.1.lt (fun e _ h=>G172 e h) m9 h
 have k2:∀ h,Sm E TG valG 162 [.d (u64 v.epoch),.d (v.covers.d u32C),.d (v.pods.d Pod.c),.d (v.services.d Svc.c),.d (v.bound.d Way.c),.d (v.policies.d Pol.c)] h = some (bl true,h):=fun h=>by
  rw [Sm_v g162 e162]
  simp (decide:=true) [Bd_mk,q162,a1,a2,a3,a4,b1,b2,b3,b4,k1,m1]
 rw [Sm_v g75 e75]
 simp (decide:=true) [Bd_mk,q75,k2]
end
end Go.Proofs.YtmnfjejphmmddaaGreat
namespace Go.Proofs.YtmnfjejphmmddaaGreat
structure TrueH (E:Calls'):Prop where
 h31:∀ c:Cfg,c.ok -> ∃ b,∀ h,E 31 [c.v] h = some (bl b,h)
 h63:∀ h,E 63 [] h = some (bl true,h)
 h64n:∀ c:Cfg,c.wf 1048576 -> c.wf big -> ∀ s:Scp,short s.addrs -> (cfgMay c && scopeMay s) = false -> ∀ h,E 64 [c.v,s.v] h = some (.tup [vw0.v,.d (i64 1)],h)
 h64:∀ c:Cfg,c.wf 1048576 -> c.wf big -> c.ok -> c.own.ok -> ∀ s:Scp,short s.addrs -> cfgMay c = true -> scopeMay s = true -> s.addrs.l.length + c.services.l.length <= big →
  ∃ nl,(nl = true -> coverT c s = []) /\ ∀ h,E 64 [c.v,s.v] h = some (.tup [(ofT c s ⟨nl,coverT c s⟩).v,.d (i64 0)],h)
 h71:∀ v:Vw,v.ok -> ∀ (x:Pod) h,E 71 [v.v,x.v] h = some (.d (Sl.d Pol.c ⟨v.policies.nl,(mineT v x).map Pol.own⟩),h)
 h73:∀ v:Vw,v.ok -> ∀ n h,E 73 [v.v,.d (u32 n)] h = some ((vatT v n).v,h)
 h43:∀ c:Cfg,c.ok -> ∀ n h,E 43 [c.v,.d (u32 n)] h = some (.tup [(atT c n).1.v,(atT c n).2.1.v,.d (i64 (atT c n).2.2)],h)
 h44:∀ c:Cfg,c.ok -> ∀ n h,E 44 [c.v,.d (u64 n)] h = some (.d (.slice c.pods.nl ((endsT c n).map Pod.c)),h)
 h45:∀ c:Cfg,c.ok -> ∀ n h,E 45 [c.v,.d (u64 n)] h = some (.tup (match wayT c n with | some w=>[w.v,bl true] | none=>[way0.v,bl false]),h)
 h50:∀ c:Cfg,c.ok -> ∀ (x:Pod) h,E 50 [c.v,x.v] h = some (.d (.slice (polsT c x).isEmpty (((polsT c x).map Pol.own).map Pol.c)),h)
 h154:∀ s:Sl Int,short s -> ∀ (most:Int) h,E 154 [.d (s.d u32C),.d (i64 most)] h = some (bl (coversT s.l most),h)
 h263:∀ p:Pol,p.wf big -> ∀ h,E 263 [ag p.c] h = some (bl (polMay p),h)
section
variable {E:Calls'} (H:TrueH E)
include H in
theorem H45 {c:Cfg} (hc:c.ok) (n:Int) (h:Hp):Sm E TG valG 45 [c.v,.d (u64 n)] h = some (.tup [((wayT c n).getD way0).v,bl (wayT c n).isSome],h):=by
 rw [Sm_ext g45,H.h45 c hc]
 cases wayT c n <;> rfl
include H in
theorem L14_0 {c:Cfg} {s:Scp} {v:Vw} (hc:c.ok) (hv:v.ok) (hs:short s.addrs) (hf:Fair c) (hat:∀ a ∈ s.addrs.l,vatT v a = foundT c a) (hends:∀ x ∈ c.services.l,x.addr ∈ s.addrs.l -> (endsT v.cfg x.id).length = (endsT c x.id).length):∀ (m i:Nat) (bs:List Blk),i + m = s.addrs.l.length -> getB bs 0 = some (c.c.map .d) -> getB bs 1 = some (s.c.map .d) -> getB bs 2 = some (v.c.map .d) →
 ∃ ys,Cd E TG valG (.loop [2,3,5,7] q14_b0) [(2,.ptr 0 0),(3,.ptr 1 0),(5,.ptr 2 0),(7,.d (i64 i))] ⟨bs,0⟩ = some (.exit 0,[(2,.ptr 0 0),(3,.ptr 1 0),(5,.ptr 2 0)],⟨bs ++ ys,0⟩):=by
 have hlt:=hs.lt
 have w45:=H45 H hc
 have y73:∀ n h,Sm E TG valG 73 [v.v,.d (u32 n)] h = some ((vatT v n).v,h):=fun n h=>by rw [Sm_ext g73]; exact H.h73 v hv n h
 have y43:∀ n h,Sm E TG valG 43 [c.v,.d (u32 n)] h = some (.tup [(atT c n).1.v,(atT c n).2.1.v,.d (i64 (atT c n).2.2)],h):=fun n h=>by rw [Sm_ext g43]; exact H.h43 c hc n h
 have y44:∀ c:Cfg,c.ok -> ∀ n h,Sm E TG valG 44 [c.v,.d (u64 n)] h = some (.d (.slice c.pods.nl ((endsT c n).map Pod.c)),h):=fun c hc n h=>by rw [Sm_ext g44]; exact H.h44 c hc n h
 have a44:=y44 c hc
 have b44:∀ n h,Sm E TG valG 44 [.agg [.d (u64 0),.d (u64 0),.d (i64 0),.d (i64 0),.d (v.pods.d Pod.c),.d (.slice true []),.d (.slice true []),.d (.slice true [])],.d (u64 n)] h = some (.d (.slice v.pods.nl ((endsT v.cfg n).map Pod.c)),h):=y44 ⟨0,0,0,0,v.pods,⟨true,[]⟩,⟨true,[]⟩,⟨true,[]⟩⟩ ⟨hv.2.1,⟨Nat.zero_le _,fun _=>rfl⟩,⟨Nat.zero_le _,fun _=>rfl⟩,⟨Nat.zero_le _,fun _=>rfl⟩,fun p hp=>by cases hp⟩
 have pf:∀ f:Fnd,put [V.d (.int .i64 0),.d (.int .u64 0),.d (.str ⟨#[]⟩),.d (.str ⟨#[]⟩),.d (.int .i64 0),.d (.int .u32 0),.d (.int .i64 0),.d (.int .u64 0),.d (.int .u64 0),.d (.str ⟨#[]⟩),.d (.int .u32 0),.d (.int .i64 0),.d (.int .u64 0),.d (.int .u64 0),.d (.int .i64 0)] 0 (f.c.map .d) = some (f.c.map .d):=fun _=>rfl
 have pp:∀ f:Pod,put [V.d (.int .u64 0),.d (.str ⟨#[]⟩),.d (.str ⟨#[]⟩),.d (.int .i64 0),.d (.int .u32 0),.d (.int .i64 0),.d (.int .u64 0)] 0 (f.c.map .d) = some (f.c.map .d):=fun _=>rfl
 have ps:∀ f:Svc,put [V.d (.int .u64 0),.d (.str ⟨#[]⟩),.d (.int .u32 0),.d (.int .i64 0),.d (.int .u64 0)] 0 (f.c.map .d) = some (f.c.map .d):=fun _=>rfl
 have pw:∀ f:Way,put [V.d (.int .u64 0),.d (.int .i64 0)] 0 (f.c.map .d) = some (f.c.map .d):=fun _=>rfl
 have s0:∀ f:Fnd,sub f.c 0 1 = some [i64 f.kind]:=fun _=>rfl
 have s8:∀ f:Fnd,sub f.c 8 1 = some [u64 f.service.id]:=fun _=>rfl
 have s13:∀ f:Fnd,sub f.c 13 2 = some f.way.c:=fun _=>rfl
 have z1:fnd0.pod = pod0:=rfl
 have z2:fnd0.service = svc0:=rfl
 have z3:fnd0.way = way0:=rfl
 have r1:∀ x:Pod,x.eqB x = true:=fun x=>Pod.eqB_iff.2 rfl
 have r2:∀ x:Svc,x.eqB x = true:=fun x=>Svc.eqB_iff.2 rfl
 have r3:∀ x:Way,x.eqB x = true:=fun x=>Way.eqB_iff.2 rfl
 intro m
 have key:=Cd_round (E:=E) (T:=TG) (val:=valG) [2,3,5,7] q14_b0
 generalize Cd E TG valG (.loop [2,3,5,7] q14_b0) = W at key ⊢
 induction m with
 | zero =>
  intro i bs hi h0 h1 h2
  refine ⟨[],?_⟩
  rw [key]
  simp [q14_b0,h1,show ¬ ((i:Int) < s.addrs.l.length) from by omega]
 | succ m ih =>
  intro i bs hi h0 h1 h2
  have hlt1:i < s.addrs.l.length:=by omega
  have hlt2:(i:Int) < s.addrs.l.length:=by omega
  have hx:=fun h=>ix_u32 hlt1 (kd:=.i64) (h:=h)
  have hw1:=int_next hlt1 hlt
  have hmem:=List.getElem_mem hlt1
  generalize s.addrs.l[i] = a at *
  have f73:∀ h,Sm E TG valG 73 [v.v,.d (u32 a)] h = some ((foundT c a).v,h):=fun h=>by rw [y73,hat a hmem]
  have f43:=y43 a
  have hfa:=found_at hf a
  have i0:=fun ys=>getB_of (ys:=ys) h0
  have i1:=fun ys=>getB_of (ys:=ys) h1
  have i2:=fun ys=>getB_of (ys:=ys) h2
  have l2:=getB_len h2
  have l1:1 < bs.length:=by omega
  have l0:0 < bs.length:=by omega
  have hne:¬ bs = []:=by rintro rfl; simp at l0
  have jn:∀ (k:Nat) (ys:List Blk),getB (bs ++ ys) (bs.length + k) = getB ys k:=fun k ys=>by unfold getB; rw [List.getElem?_append_right (by omega)]; simp
  have ih:=fun ys=>ih (i + 1) (bs ++ ys) (by omega) (i0 ys) (i1 ys) (i2 ys)
  generalize foundT c a = f at *
  generalize atT c a = A at *
  obtain ⟨p,x,k⟩:=A
  simp only at hfa f43
  rw [key]
  rcases hfa with ⟨e1,e2⟩ | ⟨e1,e2,e3,e4,e5⟩ | ⟨e1,e2,e3,e4,e5,e6⟩
  · subst e1 e2
    obtain ⟨ys,q⟩:=ih [.cells ((Fnd.c ⟨1,pod0,svc0,way0⟩).map .d),.cells (p.c.map .d),.cells (x.c.map .d)]
    refine ⟨[.cells ((Fnd.c ⟨1,pod0,svc0,way0⟩).map .d),.cells (p.c.map .d),.cells (x.c.map .d)] ++ ys,?_⟩
    simp (decide:=true) [q14_b0,h0,h1,h2,i0,i1,i2,l0,l1,l2,hne,jn,hlt2,hw1,hx,u32C,f73,f43,pf,pp,ps,z1,z2,z3,openA,opDE_call,noTr,fillsE,apartT,Tr.spares,List.range,List.range.loop]
    simpa using q
  · obtain ⟨fk,fp,fs,fw⟩:=f
    simp only at e2 e3 e4 e5
    subst e1 e2 e3 e5
    have g45:=w45 fp.service
    generalize (wayT c fp.service).getD way0 = w at *
    obtain ⟨ys,q⟩:=ih [.cells ((Fnd.c ⟨2,fp,fs,w⟩).map .d),.cells (fp.c.map .d),.cells (x.c.map .d),.cells (w.c.map .d)]
    refine ⟨[.cells ((Fnd.c ⟨2,fp,fs,w⟩).map .d),.cells (fp.c.map .d),.cells (x.c.map .d),.cells (w.c.map .d)] ++ ys,?_⟩
    simp (decide:=true) [q14_b0,h0,h1,h2,i0,i1,i2,l0,l1,l2,hne,jn,hlt2,hw1,hx,u32C,f73,f43,pf,pp,ps,pw,s0,s8,s13,r1,r2,r3,e4,g45,openA,opDE_call,noTr,fillsE,apartT,Tr.spares,List.range,List.range.loop]
    simpa using q
  · obtain ⟨fk,fp,fs,fw⟩:=f
    simp only at e2 e3 e4 e5 e6
    subst e1 e4 e5 e6
    have g45:=w45 fs.id
    have he:=hends fs e2 (by rw [e3]; exact hmem)
    have g44:=a44 fs.id
    have k44:=b44 fs.id
    generalize (wayT c fs.id).getD way0 = w at *
    obtain ⟨ys,q⟩:=ih [.cells ((Fnd.c ⟨3,fp,fs,w⟩).map .d),.cells (p.c.map .d),.cells (fs.c.map .d),.cells (w.c.map .d)]
    refine ⟨[.cells ((Fnd.c ⟨3,fp,fs,w⟩).map .d),.cells (p.c.map .d),.cells (fs.c.map .d),.cells (w.c.map .d)] ++ ys,?_⟩
    simp (decide:=true) [q14_b0,h0,h1,h2,i0,i1,i2,l0,l1,l2,hne,jn,hlt2,hw1,hx,u32C,f73,f43,pf,pp,ps,pw,s0,s8,s13,r1,r2,r3,g44,k44,he,g45,openA,opDE_call,noTr,fillsE,apartT,Tr.spares,List.range,List.range.loop]
    simpa using q
theorem L14_1 {A B:Sl Pol} (hA:A.l.length < 2 ^ 62) (hl:B.l.length = A.l.length) (hid:∀ i (h1:i < A.l.length) (h2:i < B.l.length),A.l[i].id = B.l[i].id) (x2 x3 x5 x17:V) (h:Hp):∀ (m i:Nat),i + m = A.l.length →
 Cd E TG valG (.loop [2,3,5,17,21,22,23] q14_b1) [(2,x2),(3,x3),(5,x5),(17,x17),(21,.d (A.d Pol.c)),(22,.d (B.d Pol.c)),(23,.d (i64 i))] h = some (.exit 5,[(2,x2),(3,x3),(5,x5),(17,x17)],h):=by
 intro m
 have key:=Cd_round (E:=E) (T:=TG) (val:=valG) [2,3,5,17,21,22,23] q14_b1
 generalize Cd E TG valG (.loop [2,3,5,17,21,22,23] q14_b1) = W at key ⊢
 induction m with
 | zero =>
  intro i hi
  rw [key]
  simp [q14_b1,show ¬ ((i:Int) < A.l.length) from by omega]
 | succ m ih =>
  intro i hi
  have hlt1:i < A.l.length:=by omega
  have hlt2:(i:Int) < A.l.length:=by omega
  have hx:=fun h=>ix_data (cells:=Pol.c) (z:=5) (fun _=>rfl) hlt1 (kd:=.i64) (h:=h)
  have hy:=fun h=>ix_data (cells:=Pol.c) (z:=5) (fun _=>rfl) (show i < B.l.length by omega) (kd:=.i64) (h:=h)
  have he:=hid i hlt1 (by omega)
  have hw1:=int_next hlt1 hA
  have:=ih (i + 1) (by omega)
  rw [key]
  generalize A.l[i] = a at *
  generalize B.l[i] = b at *
  simp (decide:=true) [q14_b1,hlt2,hx,hy,he,hw1]
  simpa using this
include H in
theorem L14_2 {c:Cfg} {s:Scp} {v:Vw} (hc:c.ok) (hv:v.ok) (hf:Fair c) (hm:∀ p ∈ c.pods.l,ownT c s.node p = true -> mineT v p = (polsT c p).map Pol.own /\ (vatT v p.addr).pod = p):∀ (m i:Nat) (bs:List Blk),i + m = c.pods.l.length -> getB bs 0 = some (c.c.map .d) -> getB bs 1 = some (s.c.map .d) -> getB bs 2 = some (v.c.map .d) →
 ∃ ys,Cd E TG valG (.loop [2,3,5,17] q14_b2) [(2,.ptr 0 0),(3,.ptr 1 0),(5,.ptr 2 0),(17,.d (i64 i))] ⟨bs,0⟩ = some (.exit 3,[],⟨bs ++ ys,0⟩):=by
 have hlt:=hc.1.lt
 have w45:=H45 H hc
 have y71:∀ (x:Pod) h,Sm E TG valG 71 [v.v,x.v] h = some (.d (Sl.d Pol.c ⟨v.policies.nl,(mineT v x).map Pol.own⟩),h):=fun x h=>by rw [Sm_ext g71]; exact H.h71 v hv x h
 have y73:∀ n h,Sm E TG valG 73 [v.v,.d (u32 n)] h = some ((vatT v n).v,h):=fun n h=>by rw [Sm_ext g73]; exact H.h73 v hv n h
 have y50:∀ (x:Pod) h,Sm E TG valG 50 [c.v,x.v] h = some (.d (Sl.d Pol.c ⟨(polsT c x).isEmpty,(polsT c x).map Pol.own⟩),h):=fun x h=>by rw [Sm_ext g50]; exact H.h50 c hc x h
 have pp:∀ f:Pod,put [V.d (.int .u64 0),.d (.str ⟨#[]⟩),.d (.str ⟨#[]⟩),.d (.int .i64 0),.d (.int .u32 0),.d (.int .i64 0),.d (.int .u64 0)] 0 (f.c.map .d) = some (f.c.map .d):=fun _=>rfl
 have pw:∀ f:Way,put [V.d (.int .u64 0),.d (.int .i64 0)] 0 (f.c.map .d) = some (f.c.map .d):=fun _=>rfl
 have kf:∀ (f:Fnd) (h:Hp),fldv false (ag f.c) 1 7 h = some (ag f.pod.c,h):=fun _ _=>rfl
 have r1:∀ x:Pod,x.eqB x = true:=fun x=>Pod.eqB_iff.2 rfl
 intro m
 have key:=Cd_round (E:=E) (T:=TG) (val:=valG) [2,3,5,17] q14_b2
 have l1:=fun (A B:Sl Pol) hA hl hid x17 h n=>L14_1 (E:=E) (A:=A) (B:=B) hA hl hid (.ptr 0 0) (.ptr 1 0) (.ptr 2 0) x17 h n 0
 generalize Cd E TG valG (.loop [2,3,5,17] q14_b2) = W at key ⊢
 induction m with
 | zero =>
  intro i bs hi h0 h1 h2
  refine ⟨[],?_⟩
  rw [key]
  simp [q14_b2,h0,show ¬ ((i:Int) < c.pods.l.length) from by omega]
 | succ m ih =>
  intro i bs hi h0 h1 h2
  have hlt1:i < c.pods.l.length:=by omega
  have hlt2:(i:Int) < c.pods.l.length:=by omega
  have hx:=fun h=>ix_data (cells:=Pod.c) (z:=7) (fun _=>rfl) hlt1 (kd:=.i64) (h:=h)
  have hw1:=int_next hlt1 hlt
  have hmem:=List.getElem_mem hlt1
  generalize c.pods.l[i] = p at *
  have hmp:=hm p hmem
  rw [own_iff hf] at hmp
  have g45:=w45 p.service
  have i0:=fun ys=>getB_of (ys:=ys) h0
  have i1:=fun ys=>getB_of (ys:=ys) h1
  have i2:=fun ys=>getB_of (ys:=ys) h2
  have l2:=getB_len h2
  have l1':1 < bs.length:=by omega
  have l0:0 < bs.length:=by omega
  have hne:¬ bs = []:=by rintro rfl; simp at l0
  have jn:∀ (k:Nat) (ys:List Blk),getB (bs ++ ys) (bs.length + k) = getB ys k:=fun k ys=>by unfold getB; rw [List.getElem?_append_right (by omega)]; simp
  have ih:=fun ys=>ih (i + 1) (bs ++ ys) (by omega) (i0 ys) (i1 ys) (i2 ys)
  have hA:(mineT v p).length < 2 ^ 62:=by
   have:=List.length_filter_le (fun q:Pol=>holdsT q p.ns p.service) v.policies.l
   have:=hv.2.2.2.2.1.lt
   exact Nat.lt_of_le_of_lt ‹_› ‹_›
  have hA:(⟨v.policies.nl,(mineT v p).map Pol.own⟩:Sl Pol).l.length < 2 ^ 62:=by simpa using hA
  by_cases hh:p.host = s.node
  · generalize (wayT c p.service).getD way0 = w at *
    obtain ⟨e1,e2⟩:=hmp (by simp [hh])
    have hL:=l1 ⟨v.policies.nl,(mineT v p).map Pol.own⟩ ⟨(polsT c p).isEmpty,(polsT c p).map Pol.own⟩ hA (by simp [e1]) (fun i h1 h2=>by simp [e1]; rfl) (.d (i64 i)) ⟨bs ++ [.cells (p.c.map .d),.cells (w.c.map .d)],0⟩ (mineT v p).length (by simp)
    obtain ⟨ys,q⟩:=ih [.cells (p.c.map .d),.cells (w.c.map .d)]
    refine ⟨[.cells (p.c.map .d),.cells (w.c.map .d)] ++ ys,?_⟩
    rw [key]
    simp (decide:=true) [q14_b2,h0,h1,h2,i0,i1,i2,l0,l1',l2,hne,jn,hlt2,hw1,hx,pp,pw,r1,g45,y71,y73,y50,kf,e1,e2,hh,openA,opDE_call,noTr,fillsE,apartT,Tr.spares,List.range,List.range.loop]
    rw [Cd_keep]
    simp [e1] at hL
    simp [hL,hw1]
    simpa using q
  · cases hw:wayT c p.service with
    | none =>
     simp only [hw,Option.getD_none,Option.isSome_none] at g45
     have hwd:way0 = way0:=rfl
     generalize way0 = w at *
     obtain ⟨ys,q⟩:=ih [.cells (p.c.map .d),.cells (w.c.map .d)]
     refine ⟨[.cells (p.c.map .d),.cells (w.c.map .d)] ++ ys,?_⟩
     rw [key]
     simp (decide:=true) [q14_b2,h0,h1,h2,i0,i1,i2,l0,l1',l2,hne,jn,hlt2,hw1,hx,pp,pw,g45,hh]
     simpa using q
    | some w =>
     simp only [hw,Option.getD_some,Option.isSome_some] at g45 hmp
     by_cases hn:w.node = s.node
     · obtain ⟨e1,e2⟩:=hmp (by simp [hn])
       have hL:=l1 ⟨v.policies.nl,(mineT v p).map Pol.own⟩ ⟨(polsT c p).isEmpty,(polsT c p).map Pol.own⟩ hA (by simp [e1]) (fun i h1 h2=>by simp [e1]; rfl) (.d (i64 i)) ⟨bs ++ [.cells (p.c.map .d),.cells (w.c.map .d)],0⟩ (mineT v p).length (by simp)
       obtain ⟨ys,q⟩:=ih [.cells (p.c.map .d),.cells (w.c.map .d)]
       refine ⟨[.cells (p.c.map .d),.cells (w.c.map .d)] ++ ys,?_⟩
       rw [key]
       simp (decide:=true) [q14_b2,h0,h1,h2,i0,i1,i2,l0,l1',l2,hne,jn,hlt2,hw1,hx,pp,pw,r1,g45,y71,y73,y50,kf,e1,e2,hh,hn,openA,opDE_call,noTr,fillsE,apartT,Tr.spares,List.range,List.range.loop]
       rw [Cd_keep]
       simp [e1] at hL
       simp [hL,hw1]
       simpa using q
     · obtain ⟨ys,q⟩:=ih [.cells (p.c.map .d),.cells (w.c.map .d)]
       refine ⟨[.cells (p.c.map .d),.cells (w.c.map .d)] ++ ys,?_⟩
       rw [key]
       simp (decide:=true) [q14_b2,h0,h1,h2,i0,i1,i2,l0,l1',l2,hne,jn,hlt2,hw1,hx,pp,pw,g45,hh,hn]
       simpa using q
end
end Go.Proofs.YtmnfjejphmmddaaGreat
namespace Go.Proofs.YtmnfjejphmmddaaGreat
theorem S14 {E:Calls'} (H:TrueH E) {c:Cfg} (hc:c.wf 1048576) (hcb:c.wf big) (hok:c.ok) (hoo:c.own.ok) (how:∀ p ∈ c.policies.l,p.own.wf big) (hsv:c.services.l.length <= 1048576) {s:Scp} (hs:short s.addrs) (h:Hp):Sm E TG valG 14 [c.v,s.v] h = some (bl true,h):=by
 have vz:∀ x:Vw,put [V.d (.int .u64 0),.d (.slice true []),.d (.slice true []),.d (.slice true []),.d (.slice true []),.d (.slice true [])] 0 (x.c.map V.d) = some (x.c.map V.d):=fun _=>rfl
 have e63:∀ h,Sm E TG valG 63 [] h = some (bl true,h):=fun h=>by rw [Sm_ext g63]; exact H.h63 h
 obtain ⟨b,hb⟩:=H.h31 c hok
 have hb:∀ h,Sm E TG valG 31 [c.v] h = some (bl b,h):=fun h=>by rw [Sm_ext g31]; exact hb h
 have hbig:1000 + 1048576 <= big:=by decide
 have es:∀ v:Vw,sub v.c 0 1 = some [u64 v.epoch]:=fun _=>rfl
 rw [Sm_v g14 e14]
 cases b with
 | true=>simp (decide:=true) [Bd_mk,q14,hb,e63]
 | false =>
  by_cases hl:1000 < s.addrs.l.length
  · have hl2:1000 < (s.addrs.l.length:Int):=by omega
    simp (decide:=true) [Bd_mk,q14,hb,e63,hl,hl2]
  · have hl2:¬ 1000 < (s.addrs.l.length:Int):=by omega
    cases hmay:cfgMay c && scopeMay s with
    | false =>
     have e64:∀ h,Sm E TG valG 64 [c.v,s.v] h = some (.tup [vw0.v,.d (i64 1)],h):=fun h=>by rw [Sm_ext g64]; exact H.h64n c hc hcb s hs hmay h
     simp (decide:=true) [Bd_mk,q14,hb,e63,hl,hl2,e64,vz]
    | true =>
     simp only [Bool.and_eq_true] at hmay
     obtain ⟨nl1,c1,e64⟩:=H.h64 c hc hcb hok hoo s hs hmay.1 hmay.2 (by omega)
     have e64:∀ h,Sm E TG valG 64 [c.v,s.v] h = some (.tup [(ofT c s ⟨nl1,coverT c s⟩).v,.d (i64 0)],h):=fun h=>by rw [Sm_ext g64]; exact e64 h
     have v1:=ofT_ok hok hoo (s:=s) c1 (by omega)
     have hf:=fair hmay.1
     have hat:∀ a ∈ s.addrs.l,vatT (ofT c s ⟨nl1,coverT c s⟩) a = foundT c a:=fun a ha=>at_of cover_cov ha
     have hends:∀ x ∈ c.services.l,x.addr ∈ s.addrs.l -> (endsT (ofT c s ⟨nl1,coverT c s⟩).cfg x.id).length = (endsT c x.id).length:=fun x hx ha=>by
      show ((ofPods c s).filter fun p=>!endQ x.id p).length = _
      rw [ends_of hx ha]; rfl
     have hm:∀ p ∈ c.pods.l,ownT c s.node p = true -> mineT (ofT c s ⟨nl1,coverT c s⟩) p = (polsT c p).map Pol.own /\ (vatT (ofT c s ⟨nl1,coverT c s⟩) p.addr).pod = p:=fun p hp ho=>⟨mine_own hp ho,own_at hf hp ho⟩
     have hwp:∀ p ∈ (ofT c s ⟨nl1,coverT c s⟩).policies.l,p.wf big:=fun p hp=>by
      obtain ⟨q,hq,rfl⟩:=List.mem_map.1 (List.mem_filter.1 hp).1
      exact how q hq
     have k75:=G75 (E:=E) H.h154 H.h263 _ v1 hwp (may_of (nl:=nl1) hmay.1 hmay.2)
     have hep:(ofT c s ⟨nl1,coverT c s⟩).epoch = c.epoch:=rfl
     generalize ofT c s ⟨nl1,coverT c s⟩ = v at *
     obtain ⟨y1,l0⟩:=L14_0 H hok v1 hs hf hat hends s.addrs.l.length 0 [.cells (c.c.map .d),.cells (s.c.map .d),.cells (v.c.map .d)] (by omega) rfl rfl rfl
     obtain ⟨y2,l1⟩:=L14_2 H (s:=s) hok v1 hf hm c.pods.l.length 0 ([.cells (c.c.map .d),.cells (s.c.map .d),.cells (v.c.map .d)] ++ y1) (by omega) rfl rfl rfl
     rw [show ((0:Nat):Int) = 0 from rfl] at l0 l1
     simp only [List.cons_append,List.nil_append] at l0 l1
     simp (decide:=true) [Bd_mk,q14,hb,hl,hl2,e64,vz,k75,hep,es]
     rw [Cd_keep]
     simp (decide:=true) [l0]
     rw [Cd_keep]
     simp (decide:=true) [l1,e63]
end Go.Proofs.YtmnfjejphmmddaaGreat
