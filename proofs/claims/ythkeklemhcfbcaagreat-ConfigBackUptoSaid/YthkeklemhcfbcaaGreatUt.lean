/- code.NewReader; policy.Decode, whole. -/
import Derived.Test.YthkeklemhcfbcaaGreatUn
import Derived.Test.YthkeklemhcfbcaaGreatUa
import Derived.Test.YthkeklemhcfbcaaGreatWo
import Derived.Test.YthkeklemhcfbcaaGreatF64
import Derived.KernelRfl
set_option maxRecDepth 100000
set_option linter.unusedVariables false
set_option linter.unusedSimpArgs false
namespace Go.Proofs.YthkeklemhcfbcaaGreat
theorem app_bytes {nl:Bool} {c:Int} {l:List Int} (hl:(c :: l).length <= big) (bs:List Blk) (lo:Nat):appv ⟨bs,lo⟩ 1 1 (.d (.slice true [])) (.d (Sl.d u8C ⟨nl,c :: l⟩)) = some (.row bs.length 0 (c :: l).length none 1,⟨bs ++ [.cells ((c :: l).map (iv .u8))],lo⟩):=by
 have hall:(((c :: l).map u8C).all fun e=>e.length == 1) = true:=by
  rw [List.all_eq_true]
  intro e he
  obtain ⟨m,_,rfl⟩:=List.mem_map.1 he
  rfl
 have hr:rowCells ⟨bs,lo⟩ (.d (Sl.d u8C ⟨nl,c :: l⟩)) 1 = some ((c :: l).length,(c :: l).map (iv .u8)):=by
  have hm:(((c :: l).map u8C).flatten).map V.d = (c :: l).map (iv .u8):=by
   rw [u8_flat,List.map_map]; rfl
  simp only [rowCells,Sl.d,hall,if_true,hm,List.length_map]
 have hroom:roomy (c :: l).length 1 = true:=by simp only [roomy,Bool.and_eq_true,decide_eq_true_eq]; exact ⟨hl,by decide⟩
 simp only [appv,hr,appendAt,hroom,if_true]
 rw [if_neg (by simp),if_neg (by decide)]
 rfl
section
variable {E:Calls'}
theorem S224 {nl:Bool} {l:List Int} (hb:byteL l) (hl:l.length <= big) (bs:List Blk):∃ p bs',∃ F:Nat -> Nat,(∀ lo,Sm E TRd valRd 16 [.d (Sl.d u8C ⟨nl,l⟩)] ⟨bs,lo⟩ = some (.ptr p 0,⟨bs',F lo⟩)) /\ RdS p bs' (some l) /\ bs.length <= p /\ bs.length <= bs'.length /\ (∀ y,y < bs.length -> bs'[y]? = bs[y]?):=by
 cases l with
 | nil =>
  refine ⟨bs.length,bs ++ [.cells [.d (.slice true []),bl false]],fun lo=>min lo bs.length,fun lo=>?_,⟨.d (.slice true []),[],by simp,.inl ⟨rfl,true,rfl⟩,byteL.nil,Nat.zero_le _,fun b h=>by cases h; rfl⟩,Nat.le_refl _,by simp,fun y hy=>by rw [List.getElem?_append_left hy]⟩
  rw [Sm_ref rt224 rv224]
  simp (decide:=true) [Bd_mk,r224,Sl.d,appv,rowCells,appendAt,fillsE,put,V.under,V.under.go]
 | cons c l =>
  have ha:=fun lo=>app_bytes (nl:=nl) hl bs lo
  refine ⟨bs.length + 1,bs ++ [.cells ((c :: l).map (iv .u8)),.cells [.row bs.length 0 (c :: l).length none 1,bl false]],fun lo=>min lo bs.length,fun lo=>?_,⟨.row bs.length 0 (c :: l).length none 1,c :: l,by simp,.inr ⟨by simp,bs.length,0,(c :: l).map (iv .u8),rfl,Nat.lt_succ_self _,by simp,sub_all (by simp)⟩,hb,hl,fun b h=>by cases h; rfl⟩,Nat.le_succ _,by simp,fun y hy=>by rw [List.getElem?_append_left hy]⟩
  rw [Sm_ref rt224 rv224]
  generalize hd:Sl.d u8C ⟨nl,c :: l⟩ = d at ha ⊢
  simp (decide:=true) [Bd_mk,r224,ha,fillsE,put,V.under,V.under.go]
end
section
variable {E:Calls'} (h404:∀ x h,E 99 [.d (u64 x)] h = some (.d (i64 (grpT x)),h))
include h404
set_option maxHeartbeats 1000000 in
theorem F236 (h378:∀ p:Pol,p.wf big -> ∀ (h:Hp) (v:V),frz h v = some (ag p.c) -> E 60 [v] h = some (bl (polMay p),h)) {nl:Bool} {l:List Int} (hb:byteL l) (hl:l.length <= big) :
 match decP l with
 | some p=>∃ cs h' K,Bd E TRd valRd r236 [.d (Sl.d u8C ⟨nl,l⟩)] ⟨[],0⟩ = some (.tup [.agg cs,.d (i64 0)],h') /\ Hngs true K h'.bs 4 cs p.c
 | none=>∃ h',Bd E TRd valRd r236 [.d (Sl.d u8C ⟨nl,l⟩)] ⟨[],0⟩ = some (.tup [.agg [.d (u64 0),.d (.str ⟨#[]⟩),.d (u64 0),.d (i64 0),.d (.slice true [])],.d (i64 2)],h'):=by
 obtain ⟨p,M,F0,e0,r0,hp0,hM,hold⟩:=S224 (E:=E) (nl:=nl) hb hl [.cells [.d (u64 0),.d (.str ⟨#[]⟩),.d (u64 0),.d (i64 0),.d (.slice true [])]]
 simp only [List.length_cons,List.length_nil] at hp0 hM hold
 have hpM:=r0.lt
 have g0:getB M 0 = some [.d (u64 0),.d (.str ⟨#[]⟩),.d (u64 0),.d (i64 0),.d (.slice true [])]:=by unfold getB; rw [hold 0 (by omega)]; rfl
 obtain ⟨x1,st1,bs1,F1,e1,s1,z1,r1,o1,l1,n1,a1⟩:=R225 h404 (r0.lay [.cells [.ptr p 0]])
 have hl1:=o1.1
 simp only [List.length_append,List.length_cons,List.length_nil] at hl1
 have gQ1:getB bs1 M.length = some [.ptr p 0]:=getB_old' o1 (by omega) (by simp)
 have gR1:getB bs1 0 = some [.d (u64 0),.d (.str ⟨#[]⟩),.d (u64 0),.d (i64 0),.d (.slice true [])]:=getB_old' o1 (by omega) (getB_of g0)
 obtain ⟨x2,st2,bs2,F2,e2,s2,z2,r2,o2,l2,n2,a2⟩:=R229 h404 (r1.lay [.cells [.d (u64 x1),.d (.str ⟨#[]⟩),.d (u64 0),.d (i64 0),.d (.slice true [])]]) (most:=20) (by decide) (by decide)
 have hl2:=o2.1
 simp only [List.length_append,List.length_cons,List.length_nil] at hl2
 have gQ2:getB bs2 M.length = some [.ptr p 0]:=getB_old' o2 (by omega) (getB_of gQ1)
 have gR2:getB bs2 0 = some [.d (u64 0),.d (.str ⟨#[]⟩),.d (u64 0),.d (i64 0),.d (.slice true [])]:=getB_old' o2 (by omega) (getB_of gR1)
 have gN2:getB bs2 bs1.length = some [.d (u64 x1),.d (.str ⟨#[]⟩),.d (u64 0),.d (i64 0),.d (.slice true [])]:=getB_old' o2 (by omega) (by simp)
 obtain ⟨x3,st3,bs3,F3,e3,s3,z3,r3,o3,l3,n3,a3⟩:=R225 h404 (r2.set' (b:=bs1.length) (by omega) (.cells [.d (u64 x1),.d (.str x2),.d (u64 0),.d (i64 0),.d (.slice true [])]))
 have hl3:=o3.1
 simp only [List.length_set] at hl3
 have gQ3:getB bs3 M.length = some [.ptr p 0]:=getB_old' o3 (by omega) (by rw [getB_set,if_neg (by omega)]; exact gQ2)
 have gR3:getB bs3 0 = some [.d (u64 0),.d (.str ⟨#[]⟩),.d (u64 0),.d (i64 0),.d (.slice true [])]:=getB_old' o3 (by omega) (by rw [getB_set,if_neg (by omega)]; exact gR2)
 have gN3:getB bs3 bs1.length = some [.d (u64 x1),.d (.str x2),.d (u64 0),.d (i64 0),.d (.slice true [])]:=getB_old' o3 (by omega) (by rw [getB_set,if_pos rfl,if_pos (by omega)])
 obtain ⟨x4,st4,bs4,F4,e4,sz4,b4,c4,r4,o4,l4,n4,a4⟩:=R394 h404 (r3.set' (b:=bs1.length) (by omega) (.cells [.d (u64 x1),.d (.str x2),.d (u64 x3),.d (i64 0),.d (.slice true [])])) (most:=1) (by decide) (by decide)
 have hl4:=o4.1
 simp only [List.length_set] at hl4
 have gQ4:getB bs4 M.length = some [.ptr p 0]:=getB_old' o4 (by omega) (by rw [getB_set,if_neg (by omega)]; exact gQ3)
 have gR4:getB bs4 0 = some [.d (u64 0),.d (.str ⟨#[]⟩),.d (u64 0),.d (i64 0),.d (.slice true [])]:=getB_old' o4 (by omega) (by rw [getB_set,if_neg (by omega)]; exact gR3)
 have gN4:getB bs4 bs1.length = some [.d (u64 x1),.d (.str x2),.d (u64 x3),.d (i64 0),.d (.slice true [])]:=getB_old' o4 (by omega) (by rw [getB_set,if_pos rfl,if_pos (by omega)])
 obtain ⟨v5,x5,st5,bs5,F5,e5,vc5,hg5,s5,r5,o5,l5,a5⟩:=RW395 h404 _ _ (r4.set' (b:=bs1.length) (by omega) (.cells [.d (u64 x1),.d (.str x2),.d (u64 x3),.d (i64 x4),.d (.slice true [])]))
 have hl5:=o5.1
 simp only [List.length_set] at hl5
 have gQ5:getB bs5 M.length = some [.ptr p 0]:=getB_old' o5 (by omega) (by rw [getB_set,if_neg (by omega)]; exact gQ4)
 have gR5:getB bs5 0 = some [.d (u64 0),.d (.str ⟨#[]⟩),.d (u64 0),.d (i64 0),.d (.slice true [])]:=getB_old' o5 (by omega) (by rw [getB_set,if_neg (by omega)]; exact gR4)
 have gN5:getB bs5 bs1.length = some [.d (u64 x1),.d (.str x2),.d (u64 x3),.d (i64 x4),.d (.slice true [])]:=getB_old' o5 (by omega) (by rw [getB_set,if_pos rfl,if_pos (by omega)])
 obtain ⟨bs6,F6,e6,o6,l6⟩:=F238 (E:=E) (r5.set' (b:=bs1.length) (by omega) (.cells [.d (u64 x1),.d (.str x2),.d (u64 x3),.d (i64 x4),v5]))
 have hl6:=o6.1
 simp only [List.length_set] at hl6
 have gN6:getB bs6 bs1.length = some [.d (u64 x1),.d (.str x2),.d (u64 x3),.d (i64 x4),v5]:=getB_old' o6 (by omega) (by rw [getB_set,if_pos rfl,if_pos (by omega)])
 have gR6:getB bs6 0 = some [.d (u64 0),.d (.str ⟨#[]⟩),.d (u64 0),.d (i64 0),.d (.slice true [])]:=getB_old' o6 (by omega) (by rw [getB_set,if_neg (by omega)]; exact gR5)
 have hS:Step pPol (some l) ⟨x1,x2,x3,x4,x5⟩ st5:=Step.map (fun x:Int × ByteArray × Int × Int × Sl Rule=>(⟨x.1,x.2.1,x.2.2.1,x.2.2.2.1,x.2.2.2.2⟩:Pol)) (s1.seq (s2.seq (s3.seq (sz4.1.seq s5))))
 have w5:∀ x,bs4.length <= x -> x < bs5.length -> bs6[x]? = bs5[x]?:=fun x h1 h2=>by rw [o6.2 x (by omega) (by simp; omega),List.getElem?_set_ne (by omega)]
 have hh:Hng true (KL bs4.length bs5) bs6 v5 (Sl.d Rule.c x5) 3:=hg5.on (fun x hx=>w5 x (by have h1:=hx.1; simp only [List.length_set] at h1; exact h1) hx.2) fun x hx=>⟨by have h1:=hx.1; simp only [List.length_set] at h1; exact h1,hx.2⟩
 have hcs:∀ K:Nat -> Prop,(∀ x,KL bs4.length bs5 x -> K x) -> Hngs true K bs6 4 [.d (u64 x1),.d (.str x2),.d (u64 x3),.d (i64 x4),v5] (Pol.c ⟨x1,x2,x3,x4,x5⟩):=fun K hK=>⟨Hng.d (by simp),Hng.d (by simp),Hng.d (by simp),Hng.d (by simp),(hh.up (by omega)).on (fun _ _=>rfl) hK,trivial⟩
 have hfrz:∀ lo,frz ⟨bs6,lo⟩ (.agg [.d (u64 x1),.d (.str x2),.d (u64 x3),.d (i64 x4),v5]) = some (ag (Pol.c ⟨x1,x2,x3,x4,x5⟩)):=fun lo=>by
  have:=(Hngs.mapM (lo:=lo) (fun _ _=>rfl) (show 4 <= 8 by decide) (hcs (fun _=>True) fun _ _=>trivial)).1
  simp only [frz,frz1,cellsV,this]
  rfl
 have n1:¬ bs1.length = 0:=by omega
 have n2:¬ M.length = 0:=by omega
 have n3:¬ bs1.length = M.length:=by omega
 have m2:bs1.length < bs2.length:=by omega
 have m3:bs1.length < bs3.length:=by omega
 have m4:bs1.length < bs4.length:=by omega
 have m5:bs1.length < bs5.length:=by omega
 have m6:bs1.length < bs6.length:=by omega
 have m0:0 < bs6.length:=by omega
 by_cases he:st5 = some []
 · rw [if_pos he] at e6
   have hpp:pPol l = some (⟨x1,x2,x3,x4,x5⟩,[]):=by
    rcases hS.of with ⟨l',h1,h2⟩ | ⟨h1,h2⟩
    · rw [he] at h2
      cases h2
      exact h1
    · rw [he] at h2; cases h2
   have hok:=(pol_cod.bwd l _ _ hb hpp).2
   have hw:=polOk.wf (B:=big) (by decide) hok
   have k378:∀ lo,Sm E TRd valRd 60 [.agg [.d (u64 x1),.d (.str x2),.d (u64 x3),.d (i64 x4),v5]] ⟨bs6,lo⟩ = some (bl (polMay ⟨x1,x2,x3,x4,x5⟩),⟨bs6,lo⟩):=fun lo=>(Sm_ext rt378).trans (h378 _ hw ⟨bs6,lo⟩ _ (hfrz lo))
   have hd:decP l = if polMay ⟨x1,x2,x3,x4,x5⟩ = true then some ⟨x1,x2,x3,x4,x5⟩ else none:=by simp only [decP,hpp]
   rw [hd]
   cases hm:polMay ⟨x1,x2,x3,x4,x5⟩ with
   | true =>
    simp only [hm] at k378
    simp only [if_true]
    refine ⟨[.d (u64 x1),.d (.str x2),.d (u64 x3),.d (i64 x4),v5],⟨bs6.set 0 (.cells [.d (u64 x1),.d (.str x2),.d (u64 x3),.d (i64 x4),v5]),0⟩,KL bs4.length bs5,?_,(hcs _ fun _ h=>h).on (fun x hx=>by have h1:=hx.1; rw [List.getElem?_set_ne (by omega)]) fun _ h=>h⟩
    simp (decide:=true) [Bd_mk,r236,e0,e1,e2,e3,e4,e5,e6,vc5.1,vc5.2,fillsE,storeAt,put,sub,Hp.set,fun ys=>getB_of (ys:=ys) gQ1,gQ2,gQ3,gQ4,gQ5,gN2,gN3,gN4,gN5,gN6,gR6,getB_set,n1,n2,n3,m0,m2,m3,m4,m5,m6,opsA_if,k378]
   | false =>
    simp only [hm] at k378
    simp only [Bool.false_eq_true,if_false]
    exact ⟨_,by simp (decide:=true) [Bd_mk,r236,e0,e1,e2,e3,e4,e5,e6,vc5.1,vc5.2,fillsE,storeAt,put,sub,Hp.set,fun ys=>getB_of (ys:=ys) gQ1,gQ2,gQ3,gQ4,gQ5,gN2,gN3,gN4,gN5,gN6,gR6,getB_set,n1,n2,n3,m0,m2,m3,m4,m5,m6,opsA_if,k378]; exact rfl⟩
 · rw [if_neg he] at e6
   have hd:decP l = none:=by
    unfold decP
    rcases hS.of with ⟨l',h1,h2⟩ | ⟨h1,h2⟩
    · rw [h1]
      cases l' with
      | nil=>exact absurd h2 he
      | cons _ _=>rfl
    · rw [h1]
   rw [hd]
   exact ⟨_,by simp (decide:=true) [Bd_mk,r236,e0,e1,e2,e3,e4,e5,e6,vc5.1,vc5.2,fillsE,storeAt,put,sub,Hp.set,fun ys=>getB_of (ys:=ys) gQ1,gQ2,gQ3,gQ4,gQ5,gN2,gN3,gN4,gN5,gN6,gR6,getB_set,n1,n2,n3,m0,m2,m3,m4,m5,m6,opsA_if]; exact rfl⟩
theorem S236 (h378:∀ p:Pol,p.wf big -> ∀ (h:Hp) (v:V),frz h v = some (ag p.c) -> E 60 [v] h = some (bl (polMay p),h)) {nl:Bool} {l:List Int} (hb:byteL l) (hl:l.length <= big) {v:V} {h:Hp} (hv:frz h v = some (.d (Sl.d u8C ⟨nl,l⟩))) :
 Sm E TRd valRd 28 [v] h = some (match decP l with | some p=>.tup [ag p.c,.d (i64 0)] | none=>.tup [ag (Pol.c ⟨0,⟨#[]⟩,0,0,⟨true,[]⟩⟩),.d (i64 2)],h):=by
 have k:=F236 h404 h378 (nl:=nl) hb hl
 rw [Sm_v rt236 rv236]
 cases hd:decP l with
 | some p =>
  rw [hd] at k
  obtain ⟨cs,h',K,k1,k2⟩:=k
  have k3:=Hngs.mapM (bs':=h'.bs) (lo:=h'.low) (fun _ _=>rfl) (show 4 <= 8 by decide) k2
  have hz:frz h' (.tup [.agg cs,.d (i64 0)]) = some (.tup [ag p.c,.d (i64 0)]):=by
   simp only [frz,List.mapM_cons,List.mapM_nil,frz1,cellsV,k3.1,dataV_d]; rfl
  have ho:ownR h' (.tup [.agg cs,.d (i64 0)]) = true:=by
   simp only [ownR,List.all_cons,List.all_nil,own1,k3.2 rfl]; rfl
  simp [hv,k1,hz,ho]
 | none =>
  rw [hd] at k
  obtain ⟨h',k1⟩:=k
  have hz:frz h' (.tup [.agg [.d (u64 0),.d (.str ⟨#[]⟩),.d (u64 0),.d (i64 0),.d (.slice true [])],.d (i64 2)]) = some (.tup [ag (Pol.c ⟨0,⟨#[]⟩,0,0,⟨true,[]⟩⟩),.d (i64 2)]):=by
   have:frz1 h' (.agg [.d (u64 0),.d (.str ⟨#[]⟩),.d (u64 0),.d (i64 0),.d (.slice true [])]) = some (ag (Pol.c ⟨0,⟨#[]⟩,0,0,⟨true,[]⟩⟩)):=by
    have:=mapM_dataV h' 8 (Pol.c ⟨0,⟨#[]⟩,0,0,⟨true,[]⟩⟩)
    simp only [frz1,cellsV]
    rw [show [V.d (u64 0),V.d (.str ⟨#[]⟩),V.d (u64 0),V.d (i64 0),V.d (.slice true [])] = (Pol.c ⟨0,⟨#[]⟩,0,0,⟨true,[]⟩⟩).map V.d from rfl,this]
    rfl
   simp only [frz,List.mapM_cons,List.mapM_nil,this,frz1,dataV_d]; rfl
  have ho:ownR h' (.tup [.agg [.d (u64 0),.d (.str ⟨#[]⟩),.d (u64 0),.d (i64 0),.d (.slice true [])],.d (i64 2)]) = true:=rfl
  simp [hv,k1,hz,ho]
end
end Go.Proofs.YthkeklemhcfbcaaGreat
namespace Go.Proofs.YthkeklemhcfbcaaGreat
theorem row_bytes {bs:List Blk} {B:Nat} {l:List Int} (h:getB bs B = some (l.map (iv .u8))) (lo:Nat):frz ⟨bs,lo⟩ (.row B 0 l.length none 1) = some (.d (Sl.d u8C ⟨false,l⟩)):=by
 have hm:(l.map (iv .u8)).mapM (dataV ⟨bs,lo⟩ 7) = some (l.map fun n=>D.int .u8 n):=by
  have:=mapM_dataV ⟨bs,lo⟩ 7 (l.map fun n=>D.int .u8 n)
  rw [List.map_map] at this
  exact this
 have hs:sub (l.map (iv .u8)) 0 l.length = some (l.map (iv .u8)):=sub_all (by simp)
 have hd:dataV ⟨bs,lo⟩ 8 (.row B 0 l.length none 1) = some (.slice false (l.map u8C)):=by
  simp only [dataV,get_eq,h,Nat.mul_one,hs,hm]
  rw [← u8_flat]
  have:=chunks_flatV (z:=1) (l.map u8C) (fun e he=>by obtain ⟨n,_,rfl⟩:=List.mem_map.1 he; rfl)
  rw [List.length_map] at this
  rw [this]
 simp [frz,frz1,hd,Sl.d]
theorem nats_cells (s:ByteArray):(s.toList.map fun b=>V.d (.int .u8 b.toNat)) = (natsOf s).map (iv .u8):=by
 simp [natsOf,iv,Function.comp]
theorem text_size {most:Int} (h0:0 <= most) {p:Nat} {bs:List Blk} {st st1:Option (List Int)} {s:ByteArray} (hR:RdS p bs st) (h:Step (pText most) st s st1) (hz:st1 = none -> s = ⟨#[]⟩):(s.size:Int) <= most:=by
 have e0:((⟨#[]⟩:ByteArray).size:Int) <= most:=by show (0:Int) <= most; exact h0
 cases st with
 | none=>rw [hz h]; exact e0
 | some b =>
  obtain ⟨v,m,g1,g2,g3,g4,g5⟩:=hR
  have:=g5 b rfl
  subst this
  rcases h.of with ⟨l,h1,h2⟩ | ⟨h1,h2⟩
  · exact ((text_cod most).bwd b s l g3 h1).2.1
  · rw [hz h2]; exact e0
theorem decP_nil:decP (natsOf ⟨#[]⟩) = none:=by
 have:natsOf ⟨#[]⟩ = []:=List.eq_nil_of_length_eq_zero (natsOf_len _)
 rw [this]
 rfl
theorem sbv_s {s:ByteArray} {h:Hp} (hs:s.size <= 2 ^ 40):convSBv (.d (.str s)) h = some (.row h.bs.length 0 s.size none 1,h.alloc (s.toList.map fun b=>.d (.int .u8 b.toNat))):=by
 simp only [convSBv,if_pos hs]; rfl
section
variable {E:Calls'} (h404:∀ x h,E 99 [.d (u64 x)] h = some (.d (i64 (grpT x)),h)) (h378:∀ p:Pol,p.wf big -> ∀ (h:Hp) (v:V),frz h v = some (ag p.c) -> E 60 [v] h = some (bl (polMay p),h))
include h404 h378
set_option maxHeartbeats 1000000 in
theorem R235 {p q:Nat} (bs:List Blk) (hq:getB bs q = some [.ptr p 0]) (hqp:q ≠ p):RdsW false E 27 [.ptr q 0] p (pPolT 8192) Pol.c 0 bs:=by
 intro st hR
 have hp:=hR.lt
 have hql:=getB_len hq
 obtain ⟨s,st1,bs1,F1,e1,s1,z1,r1,o1,l1,n1,a1⟩:=R229 h404 (hR.lay [.cells [.d (u64 0),.d (.str ⟨#[]⟩),.d (u64 0),.d (i64 0),.d (.slice true [])]]) (most:=8192) (by decide) (by decide)
 have hl1:=o1.1
 simp only [List.length_append,List.length_cons,List.length_nil] at hl1
 have gQ1:getB bs1 q = some [.ptr p 0]:=getB_old' o1 hqp (getB_of hq)
 have gR1:getB bs1 bs.length = some [.d (u64 0),.d (.str ⟨#[]⟩),.d (u64 0),.d (i64 0),.d (.slice true [])]:=getB_old' o1 (by omega) (by simp)
 have hs:=text_size (by decide) hR s1 z1
 have hs40:s.size <= 2 ^ 40:=by omega
 have hcell:=nats_cells s
 have hnl:=natsOf_len s
 have hv:∀ ys lo,frz ⟨bs1 ++ .cells ((natsOf s).map (iv .u8)) :: ys,lo⟩ (.row bs1.length 0 s.size none 1) = some (.d (Sl.d u8C ⟨false,natsOf s⟩)):=fun ys lo=>by
  rw [← hnl]; exact row_bytes (by simp) lo
 have k236:=fun lo=>S236 h404 h378 (nl:=false) (natsOf_byte s) (by rw [hnl]; exact Nat.le_trans (show s.size <= 8192 by omega) (by decide)) (hv [] lo)
 have n1':¬ bs1.length = bs.length:=by omega
 have n2':¬ bs1.length + 1 = bs.length:=by omega
 have hlt:bs.length < bs1.length:=by omega
 have hlt2:bs.length < bs1.length + 1 + 1:=by omega
 cases hd:decP (natsOf s) with
 | none =>
  rw [hd] at k236
  obtain ⟨bs2,q1,q2,q3⟩:=F237 (E:=E) (r1.lay [.cells ((natsOf s).map (iv .u8)),.cells [.d (u64 0),.d (.str ⟨#[]⟩),.d (u64 0),.d (i64 0),.d (.slice true [])]])
  have hl2:=q3.1
  simp only [List.length_append,List.length_cons,List.length_nil] at hl2
  have gT2:getB bs2 (bs1.length + 1) = some [.d (u64 0),.d (.str ⟨#[]⟩),.d (u64 0),.d (i64 0),.d (.slice true [])]:=getB_old' q3 (by omega) (by simp)
  have gR2:getB bs2 bs.length = some [.d (u64 0),.d (.str ⟨#[]⟩),.d (u64 0),.d (i64 0),.d (.slice true [])]:=getB_old' q3 (by omega) (getB_of gR1)
  have hB:∃ c',Bd E TRd valRd r235 [.ptr q 0] ⟨bs,bs.length⟩ = some (.agg [.d (u64 0),.d (.str ⟨#[]⟩),.d (u64 0),.d (i64 0),.d (.slice true [])],⟨bs2.set bs.length (.cells [.d (u64 0),.d (.str ⟨#[]⟩),.d (u64 0),.d (i64 0),.d (.slice true [])]),c'⟩) /\ c' < bs.length:=by
   refine ⟨min (min (min (F1 bs.length) (bs1.length + 1)) p) bs.length,?_,by omega⟩
   simp (decide:=true) [Bd_mk,r235,e1,getB_of hq,opE_convSB,sbv_s hs40,hcell,k236,Pol.c,Sl.d,storeAt,put,sub,Hp.set,gQ1,fun ys=>getB_of (ys:=ys) gQ1,q1,gT2,gR2,getB_set,show bs.length < bs2.length from by omega]
  obtain ⟨c',hB,hc⟩:=hB
  have hst:Step (pPolT 8192) st (⟨0,⟨#[]⟩,0,0,⟨true,[]⟩⟩:Pol) none:=by
   cases st with
   | none=>exact rfl
   | some b =>
    rcases s1.of with ⟨l,h1,h2⟩ | ⟨h1,h2⟩
    · exact Step.fails (by simp only [pPolT,h1,hd])
    · exact Step.fails (by simp only [pPolT,h1])
  exact ⟨.agg [.d (u64 0),.d (.str ⟨#[]⟩),.d (u64 0),.d (i64 0),.d (.slice true [])],_,⟨0,⟨#[]⟩,0,0,⟨true,[]⟩⟩,none,bs2.set bs.length (.cells [.d (u64 0),.d (.str ⟨#[]⟩),.d (u64 0),.d (i64 0),.d (.slice true [])]),fun lo=>min lo c',fun lo=>ref_some rt235 rv235 hB hc lo,rfl,Hngs.data (ds:=Pol.c ⟨0,⟨#[]⟩,0,0,⟨true,[]⟩⟩),hst,q2.set' (by omega) _,(((Old.lay bs _).trans o1).trans ((Old.lay bs1 _).trans q3)).set' (Nat.le_refl _) _,fun lo=>Nat.min_le_left _ _⟩
 | some pol =>
  rw [hd] at k236
  have hne:st1 ≠ none:=fun h=>by rw [z1 h,decP_nil] at hd; cases hd
  have hst0:st ≠ none:=fun h=>by subst h; exact hne s1
  have a1:=a1 hst0 bs.length
  generalize hPc:pol.c.map V.d = Pc at *
  have hPl:Pc.length = 5:=by rw [← hPc]; rfl
  have hag:(ag pol.c:V) = .agg Pc:=by rw [← hPc]; rfl
  have hput:put [.d (u64 0),.d (.str ⟨#[]⟩),.d (u64 0),.d (i64 0),.d (.slice true [])] 0 Pc = some Pc:=by simp [put,hPl]
  have hsub:sub Pc 0 5 = some Pc:=sub_all hPl
  simp only [hag] at k236
  have hB:∃ c',Bd E TRd valRd r235 [.ptr q 0] ⟨bs,bs.length⟩ = some (.agg Pc,⟨(bs1 ++ [Blk.cells ((natsOf s).map (iv .u8)),Blk.cells Pc]).set bs.length (.cells Pc),c'⟩) /\ c' < bs.length:=by
   refine ⟨min (min (F1 bs.length) (bs1.length + 1)) bs.length,?_,by omega⟩
   have hg:∀ ys,getB (bs1.set bs.length (.cells Pc) ++ ys) bs.length = some Pc:=fun ys=>getB_of (by rw [getB_set,if_pos rfl,if_pos hlt])
   simp (decide:=true) [Bd_mk,r235,e1,getB_of hq,opE_convSB,sbv_s hs40,hcell,k236,hput,hsub,hPl,stv,V.cells,storeAt,Hp.set,fun ys=>getB_of (ys:=ys) gR1,hg,getB_set,hlt,hlt2]
  obtain ⟨c',hB,hc⟩:=hB
  have hst:Step (pPolT 8192) st pol st1:=by
   cases st with
   | none=>exact absurd rfl hst0
   | some b =>
    rcases s1.of with ⟨l,h1,h2⟩ | ⟨h1,h2⟩
    · rw [h2]
      exact Step.ok (by simp only [pPolT,h1,hd])
    · exact absurd h2 hne
  exact ⟨.agg Pc,Pc,pol,st1,_,fun lo=>min lo c',fun lo=>ref_some rt235 rv235 hB hc lo,rfl,by rw [← hPc]; exact Hngs.data,hst,(r1.lay _).set' (by omega) _,(((Old.lay bs _).trans o1).trans (Old.lay bs1 _)).set' (Nat.le_refl _) _,fun lo=>Nat.min_le_left _ _⟩
theorem RW234 {p q:Nat} (bs:List Blk) (hq:getB bs q = some [.ptr p 0]) (hqp:q ≠ p):RdsR false E 26 [.agg [.ptr p 0],.d (i64 12),.fn 27 [.ptr q 0]] p (pSl 12 (pPolT 8192)) Pol.c 1 bs :=
 S_list h404 (rt234:TRd 26 = some (listQ 18 5 64 [(.d (u64 0)),(.d (.str ⟨#[]⟩)),(.d (u64 0)),(.d (i64 0)),(.d (.slice true []))])) rv234 (by decide) (by decide) rfl (fun _=>rfl) (g:=27) (args:=[.ptr q 0]) (fun _ _=>rfl) rfl rfl (by decide) (by decide) fun bs' ho=>R235 h404 h378 bs' (getB_old' ho hqp hq) hqp
set_option maxHeartbeats 1000000 in
theorem F94 (h91:∀ c:Cfg,c.wf 1048576 -> c.wf big -> ∀ (h:Hp) (v:V),frz h v = some (ag c.c) -> E 8 [v] h = some (bl (cfgMay c),h)) {nl:Bool} {l:List Int} (hb:byteL l) (hl:l.length <= big) :
 match decC l with
 | some c=>∃ cs h' K,Bd E TRd valRd r94 [.d (Sl.d u8C ⟨nl,l⟩)] ⟨[],0⟩ = some (.tup [.agg cs,.d (i64 0)],h') /\ Hngs false K h'.bs 1 cs c.c
 | none=>∃ h',Bd E TRd valRd r94 [.d (Sl.d u8C ⟨nl,l⟩)] ⟨[],0⟩ = some (.tup [.agg [.d (u64 0),.d (u64 0),.d (i64 0),.d (i64 0),.d (.slice true []),.d (.slice true []),.d (.slice true []),.d (.slice true [])],.d (i64 2)],h'):=by
 obtain ⟨p,M,F0,e0,r0,hp0,hM,hold⟩:=S224 (E:=E) (nl:=nl) hb hl [.cells [.d (u64 0),.d (u64 0),.d (i64 0),.d (i64 0),.d (.slice true []),.d (.slice true []),.d (.slice true []),.d (.slice true [])]]
 simp only [List.length_cons,List.length_nil] at hp0 hM hold
 have hpM:=r0.lt
 have g0:getB M 0 = some [.d (u64 0),.d (u64 0),.d (i64 0),.d (i64 0),.d (.slice true []),.d (.slice true []),.d (.slice true []),.d (.slice true [])]:=by unfold getB; rw [hold 0 (by omega)]; rfl
 have hqp:M.length ≠ p:=by omega
 obtain ⟨x1,st1,bs1,F1,e1,s1,z1,r1,o1,l1,n1,a1⟩:=R225 h404 (r0.lay [.cells [.ptr p 0],.cells [.d (u64 0),.d (u64 0),.d (i64 0),.d (i64 0),.d (.slice true []),.d (.slice true []),.d (.slice true []),.d (.slice true [])]])
 have hl1:=o1.1
 try simp only [List.length_append,List.length_cons,List.length_nil,List.length_set] at hl1
 have mQ1:getB (M ++ [Blk.cells [.ptr p 0],Blk.cells [.d (u64 0),.d (u64 0),.d (i64 0),.d (i64 0),.d (.slice true []),.d (.slice true []),.d (.slice true []),.d (.slice true [])]]) M.length = some [.ptr p 0]:=by simp
 have gQ1:getB bs1 M.length = some [.ptr p 0]:=getB_old' o1 hqp mQ1
 have gR1:getB bs1 0 = some [.d (u64 0),.d (u64 0),.d (i64 0),.d (i64 0),.d (.slice true []),.d (.slice true []),.d (.slice true []),.d (.slice true [])]:=getB_old' o1 (by omega) (getB_of g0)
 have gN1:getB bs1 (M.length + 1) = some [.d (u64 0),.d (u64 0),.d (i64 0),.d (i64 0),.d (.slice true []),.d (.slice true []),.d (.slice true []),.d (.slice true [])]:=getB_old' o1 (by omega) (by simp)
 obtain ⟨x2,st2,bs2,F2,e2,s2,z2,r2,o2,l2,n2,a2⟩:=R225 h404 r1
 have hl2:=o2.1
 try simp only [List.length_append,List.length_cons,List.length_nil,List.length_set] at hl2
 have gQ2:getB bs2 M.length = some [.ptr p 0]:=getB_old' o2 hqp gQ1
 have gR2:getB bs2 0 = some [.d (u64 0),.d (u64 0),.d (i64 0),.d (i64 0),.d (.slice true []),.d (.slice true []),.d (.slice true []),.d (.slice true [])]:=getB_old' o2 (by omega) gR1
 have gN2:getB bs2 (M.length + 1) = some [.d (u64 0),.d (u64 0),.d (i64 0),.d (i64 0),.d (.slice true []),.d (.slice true []),.d (.slice true []),.d (.slice true [])]:=getB_old' o2 (by omega) gN1
 obtain ⟨x3,st3,bs3,F3,e3,sz3,b3,c3,r3,o3,l3,n3,a3⟩:=R226 h404 (r2.set' (b:=M.length + 1) (by omega) (.cells [.d (u64 x1),.d (u64 x2),.d (i64 0),.d (i64 0),.d (.slice true []),.d (.slice true []),.d (.slice true []),.d (.slice true [])])) (most:=4) (by decide) (by decide)
 have hl3:=o3.1
 try simp only [List.length_append,List.length_cons,List.length_nil,List.length_set] at hl3
 have mQ3:getB (bs2.set (M.length + 1) (.cells [.d (u64 x1),.d (u64 x2),.d (i64 0),.d (i64 0),.d (.slice true []),.d (.slice true []),.d (.slice true []),.d (.slice true [])])) M.length = some [.ptr p 0]:=by rw [getB_set,if_neg (by omega)]; exact gQ2
 have mR3:getB (bs2.set (M.length + 1) (.cells [.d (u64 x1),.d (u64 x2),.d (i64 0),.d (i64 0),.d (.slice true []),.d (.slice true []),.d (.slice true []),.d (.slice true [])])) 0 = some [.d (u64 0),.d (u64 0),.d (i64 0),.d (i64 0),.d (.slice true []),.d (.slice true []),.d (.slice true []),.d (.slice true [])]:=by rw [getB_set,if_neg (by omega)]; exact gR2
 have mN3:getB (bs2.set (M.length + 1) (.cells [.d (u64 x1),.d (u64 x2),.d (i64 0),.d (i64 0),.d (.slice true []),.d (.slice true []),.d (.slice true []),.d (.slice true [])])) (M.length + 1) = some [.d (u64 x1),.d (u64 x2),.d (i64 0),.d (i64 0),.d (.slice true []),.d (.slice true []),.d (.slice true []),.d (.slice true [])]:=by rw [getB_set,if_pos rfl,if_pos (by omega)]
 have gQ3:getB bs3 M.length = some [.ptr p 0]:=getB_old' o3 hqp mQ3
 have gR3:getB bs3 0 = some [.d (u64 0),.d (u64 0),.d (i64 0),.d (i64 0),.d (.slice true []),.d (.slice true []),.d (.slice true []),.d (.slice true [])]:=getB_old' o3 (by omega) mR3
 have gN3:getB bs3 (M.length + 1) = some [.d (u64 x1),.d (u64 x2),.d (i64 0),.d (i64 0),.d (.slice true []),.d (.slice true []),.d (.slice true []),.d (.slice true [])]:=getB_old' o3 (by omega) mN3
 obtain ⟨x4,st4,bs4,F4,e4,sz4,b4,c4,r4,o4,l4,n4,a4⟩:=R226 h404 r3 (most:=4) (by decide) (by decide)
 have hl4:=o4.1
 try simp only [List.length_append,List.length_cons,List.length_nil,List.length_set] at hl4
 have mQ4:=gQ3
 have mR4:=gR3
 have mN4:=gN3
 have gQ4:getB bs4 M.length = some [.ptr p 0]:=getB_old' o4 hqp mQ4
 have gR4:getB bs4 0 = some [.d (u64 0),.d (u64 0),.d (i64 0),.d (i64 0),.d (.slice true []),.d (.slice true []),.d (.slice true []),.d (.slice true [])]:=getB_old' o4 (by omega) mR4
 have gN4:getB bs4 (M.length + 1) = some [.d (u64 x1),.d (u64 x2),.d (i64 0),.d (i64 0),.d (.slice true []),.d (.slice true []),.d (.slice true []),.d (.slice true [])]:=getB_old' o4 (by omega) mN4
 have mQ5:getB (bs4.set (M.length + 1) (.cells [.d (u64 x1),.d (u64 x2),.d (i64 x3),.d (i64 x4),.d (.slice true []),.d (.slice true []),.d (.slice true []),.d (.slice true [])])) M.length = some [.ptr p 0]:=by rw [getB_set,if_neg (by omega)]; exact gQ4
 obtain ⟨v5,x5,st5,bs5,F5,e5,vc5,hg5,s5,r5,o5,l5,a5⟩:=RW227 h404 _ mQ5 hqp _ (r4.set' (b:=M.length + 1) (by omega) (.cells [.d (u64 x1),.d (u64 x2),.d (i64 x3),.d (i64 x4),.d (.slice true []),.d (.slice true []),.d (.slice true []),.d (.slice true [])]))
 have hl5:=o5.1
 try simp only [List.length_append,List.length_cons,List.length_nil,List.length_set] at hl5
 have mR5:getB (bs4.set (M.length + 1) (.cells [.d (u64 x1),.d (u64 x2),.d (i64 x3),.d (i64 x4),.d (.slice true []),.d (.slice true []),.d (.slice true []),.d (.slice true [])])) 0 = some [.d (u64 0),.d (u64 0),.d (i64 0),.d (i64 0),.d (.slice true []),.d (.slice true []),.d (.slice true []),.d (.slice true [])]:=by rw [getB_set,if_neg (by omega)]; exact gR4
 have mN5:getB (bs4.set (M.length + 1) (.cells [.d (u64 x1),.d (u64 x2),.d (i64 x3),.d (i64 x4),.d (.slice true []),.d (.slice true []),.d (.slice true []),.d (.slice true [])])) (M.length + 1) = some [.d (u64 x1),.d (u64 x2),.d (i64 x3),.d (i64 x4),.d (.slice true []),.d (.slice true []),.d (.slice true []),.d (.slice true [])]:=by rw [getB_set,if_pos rfl,if_pos (by omega)]
 have gQ5:getB bs5 M.length = some [.ptr p 0]:=getB_old' o5 hqp mQ5
 have gR5:getB bs5 0 = some [.d (u64 0),.d (u64 0),.d (i64 0),.d (i64 0),.d (.slice true []),.d (.slice true []),.d (.slice true []),.d (.slice true [])]:=getB_old' o5 (by omega) mR5
 have gN5:getB bs5 (M.length + 1) = some [.d (u64 x1),.d (u64 x2),.d (i64 x3),.d (i64 x4),.d (.slice true []),.d (.slice true []),.d (.slice true []),.d (.slice true [])]:=getB_old' o5 (by omega) mN5
 have mQ6:getB (bs5.set (M.length + 1) (.cells [.d (u64 x1),.d (u64 x2),.d (i64 x3),.d (i64 x4),v5,.d (.slice true []),.d (.slice true []),.d (.slice true [])])) M.length = some [.ptr p 0]:=by rw [getB_set,if_neg (by omega)]; exact gQ5
 obtain ⟨v6,x6,st6,bs6,F6,e6,vc6,hg6,s6,r6,o6,l6,a6⟩:=RW230 h404 _ mQ6 hqp _ (r5.set' (b:=M.length + 1) (by omega) (.cells [.d (u64 x1),.d (u64 x2),.d (i64 x3),.d (i64 x4),v5,.d (.slice true []),.d (.slice true []),.d (.slice true [])]))
 have hl6:=o6.1
 try simp only [List.length_append,List.length_cons,List.length_nil,List.length_set] at hl6
 have mR6:getB (bs5.set (M.length + 1) (.cells [.d (u64 x1),.d (u64 x2),.d (i64 x3),.d (i64 x4),v5,.d (.slice true []),.d (.slice true []),.d (.slice true [])])) 0 = some [.d (u64 0),.d (u64 0),.d (i64 0),.d (i64 0),.d (.slice true []),.d (.slice true []),.d (.slice true []),.d (.slice true [])]:=by rw [getB_set,if_neg (by omega)]; exact gR5
 have mN6:getB (bs5.set (M.length + 1) (.cells [.d (u64 x1),.d (u64 x2),.d (i64 x3),.d (i64 x4),v5,.d (.slice true []),.d (.slice true []),.d (.slice true [])])) (M.length + 1) = some [.d (u64 x1),.d (u64 x2),.d (i64 x3),.d (i64 x4),v5,.d (.slice true []),.d (.slice true []),.d (.slice true [])]:=by rw [getB_set,if_pos rfl,if_pos (by omega)]
 have gQ6:getB bs6 M.length = some [.ptr p 0]:=getB_old' o6 hqp mQ6
 have gR6:getB bs6 0 = some [.d (u64 0),.d (u64 0),.d (i64 0),.d (i64 0),.d (.slice true []),.d (.slice true []),.d (.slice true []),.d (.slice true [])]:=getB_old' o6 (by omega) mR6
 have gN6:getB bs6 (M.length + 1) = some [.d (u64 x1),.d (u64 x2),.d (i64 x3),.d (i64 x4),v5,.d (.slice true []),.d (.slice true []),.d (.slice true [])]:=getB_old' o6 (by omega) mN6
 have mQ7:getB (bs6.set (M.length + 1) (.cells [.d (u64 x1),.d (u64 x2),.d (i64 x3),.d (i64 x4),v5,v6,.d (.slice true []),.d (.slice true [])])) M.length = some [.ptr p 0]:=by rw [getB_set,if_neg (by omega)]; exact gQ6
 obtain ⟨v7,x7,st7,bs7,F7,e7,vc7,hg7,s7,r7,o7,l7,a7⟩:=RW232 h404 _ mQ7 hqp _ (r6.set' (b:=M.length + 1) (by omega) (.cells [.d (u64 x1),.d (u64 x2),.d (i64 x3),.d (i64 x4),v5,v6,.d (.slice true []),.d (.slice true [])]))
 have hl7:=o7.1
 try simp only [List.length_append,List.length_cons,List.length_nil,List.length_set] at hl7
 have mR7:getB (bs6.set (M.length + 1) (.cells [.d (u64 x1),.d (u64 x2),.d (i64 x3),.d (i64 x4),v5,v6,.d (.slice true []),.d (.slice true [])])) 0 = some [.d (u64 0),.d (u64 0),.d (i64 0),.d (i64 0),.d (.slice true []),.d (.slice true []),.d (.slice true []),.d (.slice true [])]:=by rw [getB_set,if_neg (by omega)]; exact gR6
 have mN7:getB (bs6.set (M.length + 1) (.cells [.d (u64 x1),.d (u64 x2),.d (i64 x3),.d (i64 x4),v5,v6,.d (.slice true []),.d (.slice true [])])) (M.length + 1) = some [.d (u64 x1),.d (u64 x2),.d (i64 x3),.d (i64 x4),v5,v6,.d (.slice true []),.d (.slice true [])]:=by rw [getB_set,if_pos rfl,if_pos (by omega)]
 have gQ7:getB bs7 M.length = some [.ptr p 0]:=getB_old' o7 hqp mQ7
 have gR7:getB bs7 0 = some [.d (u64 0),.d (u64 0),.d (i64 0),.d (i64 0),.d (.slice true []),.d (.slice true []),.d (.slice true []),.d (.slice true [])]:=getB_old' o7 (by omega) mR7
 have gN7:getB bs7 (M.length + 1) = some [.d (u64 x1),.d (u64 x2),.d (i64 x3),.d (i64 x4),v5,v6,.d (.slice true []),.d (.slice true [])]:=getB_old' o7 (by omega) mN7
 have mQ8:getB (bs7.set (M.length + 1) (.cells [.d (u64 x1),.d (u64 x2),.d (i64 x3),.d (i64 x4),v5,v6,v7,.d (.slice true [])])) M.length = some [.ptr p 0]:=by rw [getB_set,if_neg (by omega)]; exact gQ7
 obtain ⟨v8,x8,st8,bs8,F8,e8,vc8,hg8,s8,r8,o8,l8,a8⟩:=RW234 h404 h378 _ mQ8 hqp _ (r7.set' (b:=M.length + 1) (by omega) (.cells [.d (u64 x1),.d (u64 x2),.d (i64 x3),.d (i64 x4),v5,v6,v7,.d (.slice true [])]))
 have hl8:=o8.1
 try simp only [List.length_append,List.length_cons,List.length_nil,List.length_set] at hl8
 have mR8:getB (bs7.set (M.length + 1) (.cells [.d (u64 x1),.d (u64 x2),.d (i64 x3),.d (i64 x4),v5,v6,v7,.d (.slice true [])])) 0 = some [.d (u64 0),.d (u64 0),.d (i64 0),.d (i64 0),.d (.slice true []),.d (.slice true []),.d (.slice true []),.d (.slice true [])]:=by rw [getB_set,if_neg (by omega)]; exact gR7
 have mN8:getB (bs7.set (M.length + 1) (.cells [.d (u64 x1),.d (u64 x2),.d (i64 x3),.d (i64 x4),v5,v6,v7,.d (.slice true [])])) (M.length + 1) = some [.d (u64 x1),.d (u64 x2),.d (i64 x3),.d (i64 x4),v5,v6,v7,.d (.slice true [])]:=by rw [getB_set,if_pos rfl,if_pos (by omega)]
 have gQ8:getB bs8 M.length = some [.ptr p 0]:=getB_old' o8 hqp mQ8
 have gR8:getB bs8 0 = some [.d (u64 0),.d (u64 0),.d (i64 0),.d (i64 0),.d (.slice true []),.d (.slice true []),.d (.slice true []),.d (.slice true [])]:=getB_old' o8 (by omega) mR8
 have gN8:getB bs8 (M.length + 1) = some [.d (u64 x1),.d (u64 x2),.d (i64 x3),.d (i64 x4),v5,v6,v7,.d (.slice true [])]:=getB_old' o8 (by omega) mN8
 obtain ⟨bs9,F9,e9,o9,l9⟩:=F238 (E:=E) (r8.set' (b:=M.length + 1) (by omega) (.cells [.d (u64 x1),.d (u64 x2),.d (i64 x3),.d (i64 x4),v5,v6,v7,v8]))
 have hl9:=o9.1
 try simp only [List.length_append,List.length_cons,List.length_nil,List.length_set] at hl9
 have mQ9:getB (bs8.set (M.length + 1) (.cells [.d (u64 x1),.d (u64 x2),.d (i64 x3),.d (i64 x4),v5,v6,v7,v8])) M.length = some [.ptr p 0]:=by rw [getB_set,if_neg (by omega)]; exact gQ8
 have mR9:getB (bs8.set (M.length + 1) (.cells [.d (u64 x1),.d (u64 x2),.d (i64 x3),.d (i64 x4),v5,v6,v7,v8])) 0 = some [.d (u64 0),.d (u64 0),.d (i64 0),.d (i64 0),.d (.slice true []),.d (.slice true []),.d (.slice true []),.d (.slice true [])]:=by rw [getB_set,if_neg (by omega)]; exact gR8
 have mN9:getB (bs8.set (M.length + 1) (.cells [.d (u64 x1),.d (u64 x2),.d (i64 x3),.d (i64 x4),v5,v6,v7,v8])) (M.length + 1) = some [.d (u64 x1),.d (u64 x2),.d (i64 x3),.d (i64 x4),v5,v6,v7,v8]:=by rw [getB_set,if_pos rfl,if_pos (by omega)]
 have gQ9:getB bs9 M.length = some [.ptr p 0]:=getB_old' o9 hqp mQ9
 have gR9:getB bs9 0 = some [.d (u64 0),.d (u64 0),.d (i64 0),.d (i64 0),.d (.slice true []),.d (.slice true []),.d (.slice true []),.d (.slice true [])]:=getB_old' o9 (by omega) mR9
 have gN9:getB bs9 (M.length + 1) = some [.d (u64 x1),.d (u64 x2),.d (i64 x3),.d (i64 x4),v5,v6,v7,v8]:=getB_old' o9 (by omega) mN9
 have hw3:IntKind.wrap .i64 x3 = x3:=wrap64 (by omega) (by omega)
 have hw4:IntKind.wrap .i64 x4 = x4:=wrap64 (by omega) (by omega)
 have hS:Step pCfg (some l) ⟨x1,x2,x3,x4,x5,x6,x7,x8⟩ st8:=Step.map (fun x:Int × Int × Int × Int × Sl Pod × Sl Svc × Sl Way × Sl Pol=>(⟨x.1,x.2.1,x.2.2.1,x.2.2.2.1,x.2.2.2.2.1,x.2.2.2.2.2.1,x.2.2.2.2.2.2.1,x.2.2.2.2.2.2.2⟩:Cfg)) (s1.seq (s2.seq (sz3.1.seq (sz4.1.seq (s5.seq (s6.seq (s7.seq s8)))))))
 have w8:∀ x,x ≠ p -> x ≠ (M.length + 1) -> x < bs8.length -> bs9[x]? = bs8[x]?:=fun x y1 y2 h=>by rw [o9.2 x y1 (by simp; omega),List.getElem?_set_ne (Ne.symm y2)]
 have w7:∀ x,x ≠ p -> x ≠ (M.length + 1) -> x < bs7.length -> bs9[x]? = bs7[x]?:=fun x y1 y2 h=>by rw [w8 x y1 y2 (by omega),o8.2 x y1 (by simp; omega),List.getElem?_set_ne (Ne.symm y2)]
 have w6:∀ x,x ≠ p -> x ≠ (M.length + 1) -> x < bs6.length -> bs9[x]? = bs6[x]?:=fun x y1 y2 h=>by rw [w7 x y1 y2 (by omega),o7.2 x y1 (by simp; omega),List.getElem?_set_ne (Ne.symm y2)]
 have w5:∀ x,x ≠ p -> x ≠ (M.length + 1) -> x < bs5.length -> bs9[x]? = bs5[x]?:=fun x y1 y2 h=>by rw [w6 x y1 y2 (by omega),o6.2 x y1 (by simp; omega),List.getElem?_set_ne (Ne.symm y2)]
 let K:Nat -> Prop:=fun x=>bs4.length <= x
 have hh5:Hng false (fun x=>bs4.length <= x) bs9 v5 (Sl.d Pod.c x5) 1:=(hg5.weak).on (fun x hx=>by
  have h1:=hx.1
  simp only [List.length_set] at h1
  exact w5 x (by omega) (by omega) hx.2) fun x hx=>by
  have h1:=hx.1
  simp only [List.length_set] at h1
  show bs4.length <= x
  omega
 have hh6:Hng false (fun x=>bs4.length <= x) bs9 v6 (Sl.d Svc.c x6) 1:=(hg6.weak).on (fun x hx=>by
  have h1:=hx.1
  simp only [List.length_set] at h1
  exact w6 x (by omega) (by omega) hx.2) fun x hx=>by
  have h1:=hx.1
  simp only [List.length_set] at h1
  show bs4.length <= x
  omega
 have hh7:Hng false (fun x=>bs4.length <= x) bs9 v7 (Sl.d Way.c x7) 1:=(hg7.weak).on (fun x hx=>by
  have h1:=hx.1
  simp only [List.length_set] at h1
  exact w7 x (by omega) (by omega) hx.2) fun x hx=>by
  have h1:=hx.1
  simp only [List.length_set] at h1
  show bs4.length <= x
  omega
 have hh8:Hng false (fun x=>bs4.length <= x) bs9 v8 (Sl.d Pol.c x8) 1:=(hg8).on (fun x hx=>by
  have h1:=hx.1
  simp only [List.length_set] at h1
  exact w8 x (by omega) (by omega) hx.2) fun x hx=>by
  have h1:=hx.1
  simp only [List.length_set] at h1
  show bs4.length <= x
  omega
 have hcs:Hngs false (fun x=>bs4.length <= x) bs9 1 [.d (u64 x1),.d (u64 x2),.d (i64 x3),.d (i64 x4),v5,v6,v7,v8] (Cfg.c ⟨x1,x2,x3,x4,x5,x6,x7,x8⟩):=⟨Hng.data,Hng.data,Hng.data,Hng.data,hh5,hh6,hh7,hh8,trivial⟩
 have hfrz:∀ lo,frz ⟨bs9,lo⟩ (.agg [.d (u64 x1),.d (u64 x2),.d (i64 x3),.d (i64 x4),v5,v6,v7,v8]) = some (ag (Cfg.c ⟨x1,x2,x3,x4,x5,x6,x7,x8⟩)):=fun lo=>by
  have:=(Hngs.mapM (lo:=lo) (fun _ _=>rfl) (show 1 <= 8 by decide) hcs).1
  simp only [frz,frz1,cellsV,this]
  rfl
 have hK1:∀ b ∈ [M.length],b ≠ p /\ ∃ cs,getB (M ++ [Blk.cells [.ptr p 0],Blk.cells [.d (u64 0),.d (u64 0),.d (i64 0),.d (i64 0),.d (.slice true []),.d (.slice true []),.d (.slice true []),.d (.slice true [])]]) b = some cs /\ sameVs cs cs = true:=fun b hb=>by simp only [List.mem_singleton] at hb; subst hb; exact ⟨hqp,_,mQ1,by simp [sameVs,sameV]⟩
 have hK2:∀ b ∈ [M.length],b ≠ p /\ ∃ cs,getB bs1 b = some cs /\ sameVs cs cs = true:=fun b hb=>by simp only [List.mem_singleton] at hb; subst hb; exact ⟨hqp,_,gQ1,by simp [sameVs,sameV]⟩
 have hK3:∀ b ∈ [M.length],b ≠ p /\ ∃ cs,getB (bs2.set (M.length + 1) (.cells [.d (u64 x1),.d (u64 x2),.d (i64 0),.d (i64 0),.d (.slice true []),.d (.slice true []),.d (.slice true []),.d (.slice true [])])) b = some cs /\ sameVs cs cs = true:=fun b hb=>by simp only [List.mem_singleton] at hb; subst hb; exact ⟨hqp,_,mQ3,by simp [sameVs,sameV]⟩
 have hK4:∀ b ∈ [M.length],b ≠ p /\ ∃ cs,getB bs3 b = some cs /\ sameVs cs cs = true:=fun b hb=>by simp only [List.mem_singleton] at hb; subst hb; exact ⟨hqp,_,gQ3,by simp [sameVs,sameV]⟩
 obtain ⟨t1,G1,h1,T1,_⟩:=read_open e1 (by simp only [List.length_append,List.length_cons,List.length_nil]; omega) o1 (st:=some l) n1 a1 hK1 (m:=bs2.length) (by simp only [List.length_append,List.length_cons,List.length_nil]; omega)
 obtain ⟨t2,G2,h2,T2,_⟩:=read_open e2 (by omega) o2 (st:=st1) n2 a2 hK2 (m:=bs2.length) (by omega)
 obtain ⟨t3,G3,h3,T3,_⟩:=read_open e3 (by simp only [List.length_set]; omega) o3 (st:=st2) (fun h=>⟨(n3 h).2.1,(n3 h).2.2⟩) a3 hK3 (m:=bs4.length) (by simp only [List.length_set]; omega)
 obtain ⟨t4,G4,h4,T4,_⟩:=read_open e4 (by omega) o4 (st:=st3) (fun h=>⟨(n4 h).2.1,(n4 h).2.2⟩) a4 hK4 (m:=bs4.length) (by omega)
 have q1:¬ (M.length + 1) = 0:=by omega
 have q2:¬ M.length = 0:=by omega
 have q3:¬ (M.length + 1) = M.length:=by omega
 have q4:¬ M.length = (M.length + 1):=by omega
 have m1:(M.length + 1) < bs1.length:=by omega
 have m2:(M.length + 1) < bs2.length:=by omega
 have m3:(M.length + 1) < bs3.length:=by omega
 have m4:(M.length + 1) < bs4.length:=by omega
 have m5:(M.length + 1) < bs5.length:=by omega
 have m6:(M.length + 1) < bs6.length:=by omega
 have m7:(M.length + 1) < bs7.length:=by omega
 have m8:(M.length + 1) < bs8.length:=by omega
 have m9:(M.length + 1) < bs9.length:=by omega
 have m0:0 < bs9.length:=by omega
 by_cases he:st8 = some []
 · rw [if_pos he] at e9
   have hpp:pCfg l = some (⟨x1,x2,x3,x4,x5,x6,x7,x8⟩,[]):=by
    rcases hS.of with ⟨l',h1,h2⟩ | ⟨h1,h2⟩
    · rw [he] at h2
      cases h2
      exact h1
    · rw [he] at h2; cases h2
   have hok:=(cfg_cod.bwd l _ _ hb hpp).2
   have k91:∀ lo,Sm E TRd valRd 8 [.agg [.d (u64 x1),.d (u64 x2),.d (i64 x3),.d (i64 x4),v5,v6,v7,v8]] ⟨bs9,lo⟩ = some (bl (cfgMay ⟨x1,x2,x3,x4,x5,x6,x7,x8⟩),⟨bs9,lo⟩):=fun lo=>(Sm_ext rt91).trans (h91 _ (cfgOk.wf (by decide) hok) (cfgOk.wf (by decide) hok) ⟨bs9,lo⟩ _ (hfrz lo))
   have hd:decC l = if cfgMay ⟨x1,x2,x3,x4,x5,x6,x7,x8⟩ = true /\ l.length <= 8192 then some ⟨x1,x2,x3,x4,x5,x6,x7,x8⟩ else none:=by simp only [decC,hpp]
   rw [hd]
   cases hm:cfgMay ⟨x1,x2,x3,x4,x5,x6,x7,x8⟩ with
   | true =>
    simp only [hm] at k91
    by_cases hlen:l.length <= 8192
    · have hgt:¬ ((l.length:Int) > 8192):=by omega
      rw [if_pos ⟨rfl,hlen⟩]
      refine ⟨[.d (u64 x1),.d (u64 x2),.d (i64 x3),.d (i64 x4),v5,v6,v7,v8],⟨bs9.set 0 (.cells [.d (u64 x1),.d (u64 x2),.d (i64 x3),.d (i64 x4),v5,v6,v7,v8]),0⟩,fun x=>bs4.length <= x,?_,hcs.on (fun x hx=>by have h1:bs4.length <= x:=hx; rw [List.getElem?_set_ne (by omega)]) fun _ h=>h⟩
      simp (decide:=true) [Bd_mk,r94,h1,h2,h3,h4,e0,e5,e6,e7,e8,e9,vc5.1,vc5.2,vc6.1,vc6.2,vc7.1,vc7.2,vc8.1,vc8.2,hw3,hw4,fillsE,storeAt,put,sub,Hp.set,mQ1,gQ1,gQ2,mQ3,gQ3,gQ4,mQ5,gQ5,mQ6,gQ6,mQ7,gQ7,mQ8,gQ8,mQ9,gQ9,gN2,mN3,gN3,gN4,gN5,gN6,gN7,gN8,gN9,gR9,getB_set,q1,q2,q3,q4,m0,m1,m2,m3,m4,m5,m6,m7,m8,m9,opsA_if,openA,noTr,k91,hgt]; rw [if_pos (apartT_cls [M.length] bs2.length [0,0,1,0,0,1,0,2,0,2] (by rfl) (by simp [ClsOk,Cls,Quiet,Sto,Lay,T1,T2,q3,q4]))]; simp (decide:=true) [h1,h2,h3,h4,e0,e5,e6,e7,e8,e9,vc5.1,vc5.2,vc6.1,vc6.2,vc7.1,vc7.2,vc8.1,vc8.2,hw3,hw4,fillsE,storeAt,put,sub,Hp.set,mQ1,gQ1,gQ2,mQ3,gQ3,gQ4,mQ5,gQ5,mQ6,gQ6,mQ7,gQ7,mQ8,gQ8,mQ9,gQ9,gN2,mN3,gN3,gN4,gN5,gN6,gN7,gN8,gN9,gR9,getB_set,q1,q2,q3,q4,m0,m1,m2,m3,m4,m5,m6,m7,m8,m9,opsA_if,openA,noTr,k91,hgt]; rw [if_pos (apartT_cls [M.length] bs4.length [0,1,0,0,1,0,0,2,0,2] (by rfl) (by simp [ClsOk,Cls,Quiet,Sto,Lay,T3,T4,q3,q4]))]; simp (decide:=true) [h1,h2,h3,h4,e0,e5,e6,e7,e8,e9,vc5.1,vc5.2,vc6.1,vc6.2,vc7.1,vc7.2,vc8.1,vc8.2,hw3,hw4,fillsE,storeAt,put,sub,Hp.set,mQ1,gQ1,gQ2,mQ3,gQ3,gQ4,mQ5,gQ5,mQ6,gQ6,mQ7,gQ7,mQ8,gQ8,mQ9,gQ9,gN2,mN3,gN3,gN4,gN5,gN6,gN7,gN8,gN9,gR9,getB_set,q1,q2,q3,q4,m0,m1,m2,m3,m4,m5,m6,m7,m8,m9,opsA_if,openA,noTr,k91,hgt]
    · have hgt:((l.length:Int) > 8192):=by omega
      rw [if_neg (fun h=>hlen h.2)]
      exact ⟨_,by simp (decide:=true) [Bd_mk,r94,h1,h2,h3,h4,e0,e5,e6,e7,e8,e9,vc5.1,vc5.2,vc6.1,vc6.2,vc7.1,vc7.2,vc8.1,vc8.2,hw3,hw4,fillsE,storeAt,put,sub,Hp.set,mQ1,gQ1,gQ2,mQ3,gQ3,gQ4,mQ5,gQ5,mQ6,gQ6,mQ7,gQ7,mQ8,gQ8,mQ9,gQ9,gN2,mN3,gN3,gN4,gN5,gN6,gN7,gN8,gN9,gR9,getB_set,q1,q2,q3,q4,m0,m1,m2,m3,m4,m5,m6,m7,m8,m9,opsA_if,openA,noTr,k91,hgt]; rw [if_pos (apartT_cls [M.length] bs2.length [0,0,1,0,0,1,0,2,0,2] (by rfl) (by simp [ClsOk,Cls,Quiet,Sto,Lay,T1,T2,q3,q4]))]; simp (decide:=true) [h1,h2,h3,h4,e0,e5,e6,e7,e8,e9,vc5.1,vc5.2,vc6.1,vc6.2,vc7.1,vc7.2,vc8.1,vc8.2,hw3,hw4,fillsE,storeAt,put,sub,Hp.set,mQ1,gQ1,gQ2,mQ3,gQ3,gQ4,mQ5,gQ5,mQ6,gQ6,mQ7,gQ7,mQ8,gQ8,mQ9,gQ9,gN2,mN3,gN3,gN4,gN5,gN6,gN7,gN8,gN9,gR9,getB_set,q1,q2,q3,q4,m0,m1,m2,m3,m4,m5,m6,m7,m8,m9,opsA_if,openA,noTr,k91,hgt]; rw [if_pos (apartT_cls [M.length] bs4.length [0,1,0,0,1,0,0,2,0,2] (by rfl) (by simp [ClsOk,Cls,Quiet,Sto,Lay,T3,T4,q3,q4]))]; simp (decide:=true) [h1,h2,h3,h4,e0,e5,e6,e7,e8,e9,vc5.1,vc5.2,vc6.1,vc6.2,vc7.1,vc7.2,vc8.1,vc8.2,hw3,hw4,fillsE,storeAt,put,sub,Hp.set,mQ1,gQ1,gQ2,mQ3,gQ3,gQ4,mQ5,gQ5,mQ6,gQ6,mQ7,gQ7,mQ8,gQ8,mQ9,gQ9,gN2,mN3,gN3,gN4,gN5,gN6,gN7,gN8,gN9,gR9,getB_set,q1,q2,q3,q4,m0,m1,m2,m3,m4,m5,m6,m7,m8,m9,opsA_if,openA,noTr,k91,hgt]; exact rfl⟩
   | false =>
    simp only [hm] at k91
    rw [if_neg (fun h=>by cases h.1)]
    exact ⟨_,by simp (decide:=true) [Bd_mk,r94,h1,h2,h3,h4,e0,e5,e6,e7,e8,e9,vc5.1,vc5.2,vc6.1,vc6.2,vc7.1,vc7.2,vc8.1,vc8.2,hw3,hw4,fillsE,storeAt,put,sub,Hp.set,mQ1,gQ1,gQ2,mQ3,gQ3,gQ4,mQ5,gQ5,mQ6,gQ6,mQ7,gQ7,mQ8,gQ8,mQ9,gQ9,gN2,mN3,gN3,gN4,gN5,gN6,gN7,gN8,gN9,gR9,getB_set,q1,q2,q3,q4,m0,m1,m2,m3,m4,m5,m6,m7,m8,m9,opsA_if,openA,noTr,k91]; rw [if_pos (apartT_cls [M.length] bs2.length [0,0,1,0,0,1,0,2,0,2] (by rfl) (by simp [ClsOk,Cls,Quiet,Sto,Lay,T1,T2,q3,q4]))]; simp (decide:=true) [h1,h2,h3,h4,e0,e5,e6,e7,e8,e9,vc5.1,vc5.2,vc6.1,vc6.2,vc7.1,vc7.2,vc8.1,vc8.2,hw3,hw4,fillsE,storeAt,put,sub,Hp.set,mQ1,gQ1,gQ2,mQ3,gQ3,gQ4,mQ5,gQ5,mQ6,gQ6,mQ7,gQ7,mQ8,gQ8,mQ9,gQ9,gN2,mN3,gN3,gN4,gN5,gN6,gN7,gN8,gN9,gR9,getB_set,q1,q2,q3,q4,m0,m1,m2,m3,m4,m5,m6,m7,m8,m9,opsA_if,openA,noTr,k91]; rw [if_pos (apartT_cls [M.length] bs4.length [0,1,0,0,1,0,0,2,0,2] (by rfl) (by simp [ClsOk,Cls,Quiet,Sto,Lay,T3,T4,q3,q4]))]; simp (decide:=true) [h1,h2,h3,h4,e0,e5,e6,e7,e8,e9,vc5.1,vc5.2,vc6.1,vc6.2,vc7.1,vc7.2,vc8.1,vc8.2,hw3,hw4,fillsE,storeAt,put,sub,Hp.set,mQ1,gQ1,gQ2,mQ3,gQ3,gQ4,mQ5,gQ5,mQ6,gQ6,mQ7,gQ7,mQ8,gQ8,mQ9,gQ9,gN2,mN3,gN3,gN4,gN5,gN6,gN7,gN8,gN9,gR9,getB_set,q1,q2,q3,q4,m0,m1,m2,m3,m4,m5,m6,m7,m8,m9,opsA_if,openA,noTr,k91]; exact rfl⟩
 · rw [if_neg he] at e9
   have hd:decC l = none:=by
    unfold decC
    rcases hS.of with ⟨l',h1,h2⟩ | ⟨h1,h2⟩
    · rw [h1]
      cases l' with
      | nil=>exact absurd h2 he
      | cons _ _=>rfl
    · rw [h1]
   rw [hd]
   exact ⟨_,by simp (decide:=true) [Bd_mk,r94,h1,h2,h3,h4,e0,e5,e6,e7,e8,e9,vc5.1,vc5.2,vc6.1,vc6.2,vc7.1,vc7.2,vc8.1,vc8.2,hw3,hw4,fillsE,storeAt,put,sub,Hp.set,mQ1,gQ1,gQ2,mQ3,gQ3,gQ4,mQ5,gQ5,mQ6,gQ6,mQ7,gQ7,mQ8,gQ8,mQ9,gQ9,gN2,mN3,gN3,gN4,gN5,gN6,gN7,gN8,gN9,gR9,getB_set,q1,q2,q3,q4,m0,m1,m2,m3,m4,m5,m6,m7,m8,m9,opsA_if,openA,noTr]; rw [if_pos (apartT_cls [M.length] bs2.length [0,0,1,0,0,1,0,2,0,2] (by rfl) (by simp [ClsOk,Cls,Quiet,Sto,Lay,T1,T2,q3,q4]))]; simp (decide:=true) [h1,h2,h3,h4,e0,e5,e6,e7,e8,e9,vc5.1,vc5.2,vc6.1,vc6.2,vc7.1,vc7.2,vc8.1,vc8.2,hw3,hw4,fillsE,storeAt,put,sub,Hp.set,mQ1,gQ1,gQ2,mQ3,gQ3,gQ4,mQ5,gQ5,mQ6,gQ6,mQ7,gQ7,mQ8,gQ8,mQ9,gQ9,gN2,mN3,gN3,gN4,gN5,gN6,gN7,gN8,gN9,gR9,getB_set,q1,q2,q3,q4,m0,m1,m2,m3,m4,m5,m6,m7,m8,m9,opsA_if,openA,noTr]; rw [if_pos (apartT_cls [M.length] bs4.length [0,1,0,0,1,0,0,2,0,2] (by rfl) (by simp [ClsOk,Cls,Quiet,Sto,Lay,T3,T4,q3,q4]))]; simp (decide:=true) [h1,h2,h3,h4,e0,e5,e6,e7,e8,e9,vc5.1,vc5.2,vc6.1,vc6.2,vc7.1,vc7.2,vc8.1,vc8.2,hw3,hw4,fillsE,storeAt,put,sub,Hp.set,mQ1,gQ1,gQ2,mQ3,gQ3,gQ4,mQ5,gQ5,mQ6,gQ6,mQ7,gQ7,mQ8,gQ8,mQ9,gQ9,gN2,mN3,gN3,gN4,gN5,gN6,gN7,gN8,gN9,gR9,getB_set,q1,q2,q3,q4,m0,m1,m2,m3,m4,m5,m6,m7,m8,m9,opsA_if,openA,noTr]; exact rfl⟩
theorem D94 (h91:∀ c:Cfg,c.wf 1048576 -> c.wf big -> ∀ (h:Hp) (v:V),frz h v = some (ag c.c) -> E 8 [v] h = some (bl (cfgMay c),h)) {nl:Bool} {l:List Int} (hb:byteL l) (hl:l.length <= big) (h:Hp) :
 Sm E TRd valRd 6 [.d (Sl.d u8C ⟨nl,l⟩)] h = some (match decC l with | some c=>.tup [ag c.c,.d (i64 0)] | none=>.tup [ag (Cfg.c ⟨0,0,0,0,⟨true,[]⟩,⟨true,[]⟩,⟨true,[]⟩,⟨true,[]⟩⟩),.d (i64 2)],h):=by
 have k:=F94 h404 h378 h91 (nl:=nl) hb hl
 rw [Sm_v rt94 rv94]
 cases hd:decC l with
 | some c =>
  rw [hd] at k
  obtain ⟨cs,h',K,k1,k2⟩:=k
  have k3:=Hngs.mapM (bs':=h'.bs) (lo:=h'.low) (fun _ _=>rfl) (show 1 <= 8 by decide) k2
  have hz:frz h' (.tup [.agg cs,.d (i64 0)]) = some (.tup [ag c.c,.d (i64 0)]):=by
   simp only [frz,List.mapM_cons,List.mapM_nil,frz1,cellsV,k3.1,dataV_d]; rfl
  simp [frz_d,k1,hz,pureV]
 | none =>
  rw [hd] at k
  obtain ⟨h',k1⟩:=k
  have hz:frz h' (.tup [.agg [.d (u64 0),.d (u64 0),.d (i64 0),.d (i64 0),.d (.slice true []),.d (.slice true []),.d (.slice true []),.d (.slice true [])],.d (i64 2)]) = some (.tup [ag (Cfg.c ⟨0,0,0,0,⟨true,[]⟩,⟨true,[]⟩,⟨true,[]⟩,⟨true,[]⟩⟩),.d (i64 2)]):=by
   have:frz1 h' (.agg [.d (u64 0),.d (u64 0),.d (i64 0),.d (i64 0),.d (.slice true []),.d (.slice true []),.d (.slice true []),.d (.slice true [])]) = some (ag (Cfg.c ⟨0,0,0,0,⟨true,[]⟩,⟨true,[]⟩,⟨true,[]⟩,⟨true,[]⟩⟩)):=by
    have:=mapM_dataV h' 8 (Cfg.c ⟨0,0,0,0,⟨true,[]⟩,⟨true,[]⟩,⟨true,[]⟩,⟨true,[]⟩⟩)
    simp only [frz1,cellsV]
    rw [show (([.d (u64 0),.d (u64 0),.d (i64 0),.d (i64 0),.d (.slice true []),.d (.slice true []),.d (.slice true []),.d (.slice true [])]:List V)) = (Cfg.c ⟨0,0,0,0,⟨true,[]⟩,⟨true,[]⟩,⟨true,[]⟩,⟨true,[]⟩⟩).map V.d from rfl,this]
    rfl
   simp only [frz,List.mapM_cons,List.mapM_nil,this,frz1,dataV_d]; rfl
  simp [frz_d,k1,hz,pureV]
end
end Go.Proofs.YthkeklemhcfbcaaGreat
namespace Go.Proofs.YthkeklemhcfbcaaGreat
theorem Cfg.c_len (x:Cfg):x.c.length = 8:=rfl
theorem cfg_put (x:Cfg):put [V.d (.int .u64 0),V.d (.int .u64 0),V.d (.int .i64 0),V.d (.int .i64 0),V.d (.slice true []),V.d (.slice true []),V.d (.slice true []),V.d (.slice true [])] 0 (x.c.map V.d) = some (x.c.map V.d):=rfl
theorem cfg_sub (x:Cfg):sub (x.c.map V.d) 0 8 = some (x.c.map V.d):=rfl
theorem cfgMay_pol {c:Cfg} (h:cfgMay c = true):(∀ p ∈ c.policies.l,polMay p = true) /\ (bytesE c).length <= 8192:=by
 simp only [cfgMay,Bool.and_eq_true,decide_eq_true_eq] at h
 obtain ⟨⟨hs,hm⟩,hl⟩:=h
 simp only [mayT,Bool.and_eq_true] at hm
 obtain ⟨⟨⟨⟨⟨m1,m2⟩,m3⟩,m4⟩,m5⟩,m6⟩:=hm
 refine ⟨fun p hp=>?_,by omega⟩
 simp only [policiesMay,Bool.and_eq_true,Bool.not_eq_true',List.any_eq_false] at m6
 have b:=m6.1 p hp
 simp only [polBad,Bool.or_eq_true,Bool.not_eq_true',not_or,Bool.not_eq_false] at b
 exact b.2.1
theorem bytesE_pos (c:Cfg):0 < (bytesE c).length:=by
 simp only [bytesE,List.flatMap_cons,List.length_append,uintB,uintG_len]; omega
theorem convBS_n {h:Hp} {nl:Bool} {l:List Int}:convBSv (.d (Sl.d u8C ⟨nl,l⟩)) h = some (.d (.str (strOf l)),h):=by
 have k:=convBS_b (h:=h) (l:=l)
 cases nl with
 | false=>exact k
 | true=>exact k
theorem strOf_eq {a b:List Int} (ha:byteL a) (hb:byteL b):eqS (strOf a) (strOf b) = true ↔ a = b:=by
 rw [eqS_iff]
 constructor
 · intro h
   have:=congrArg natsOf h
   rw [nats_strOf ha,nats_strOf hb] at this
   exact this
 · rintro rfl; rfl
theorem and_ffff (x:Int):∃ m:Nat,binD .and (.d (.int .i64 x)) (.d (.int .i64 65535)) = some (.int .i64 (m:Int)):=by
 rw [bin_and]
 have h1:(BitVec.ofInt IntKind.i64.bits x &&& BitVec.ofInt IntKind.i64.bits 65535).toNat <= 65535:=by
  rw [BitVec.toNat_and]
  exact Nat.le_trans Nat.and_le_right (by decide)
 refine ⟨_,by rw [andI,wrap64 (by omega) (by omega)]⟩
theorem bin_rem {a b:Nat} (h:0 < b):binD .rem (.d (.int .i64 (a:Int))) (.d (.int .i64 (b:Int))) = some (.int .i64 ((a % b:Nat):Int)):=by
 have hb:¬ ((b:Int) = 0):=by omega
 simp only [binD,binInt,if_true,if_neg hb]
 rw [Int.ofNat_tmod]
theorem slice_to {L:List Int} (hL:0 < L.length) {k:Nat} (hk:k <= L.length) {hp:Hp} {ev:X -> V} {x:X} (hx:ev x = .d (.int .i64 (k:Int))):sliceE hp ev .sl 1 (.d (bytesD L)) none (some x) none = some (.d (Sl.d u8C ⟨false,L.take k⟩)):=by
 cases L with
 | nil=>simp at hL
 | cons a L =>
  have hk':k <= L.length + 1:=by simpa using hk
  have hg:((List.map (fun n=>[D.int .u8 n]) (a :: L)).headD (List.replicate 1 .nilp)).length = 1:=rfl
  simp only [sliceE,boundE,hx,bytesD,Int.natCast_nonneg,if_true,Int.toNat_natCast,Nat.zero_le,List.length_map,List.length_cons,hk',hg,and_self,List.drop_zero,Sl.d,List.map_take]
  rfl
section
variable {E:Calls'}
theorem S89 (h91:∀ c:Cfg,c.wf 1048576 -> c.wf big -> ∀ h,E 8 [c.v] h = some (bl (cfgMay c),h)) (h129:∀ c:Cfg,c.wf big -> (∀ p ∈ c.policies.l,polMay p = true) -> (bytesE c).length <= big -> ∀ h,E 31 [c.v] h = some (.d (bytesD (bytesE c)),h)) (c:Cfg) (hc:c.wf 1048576) (hcb:c.wf big) (h:Hp) :
 Sm E TRd valRd 7 [c.v] h = some (if cfgMay c = true then .tup [.d (bytesD (bytesE c)),.d (i64 0)] else .tup [.d (.slice true []),.d (i64 1)],h):=by
 have k91:∀ h,Sm E TRd valRd 8 [c.v] h = some (bl (cfgMay c),h):=fun h=>(Sm_ext rt91).trans (h91 c hc hcb h)
 rw [Sm_v rt89 rv89]
 cases hm:cfgMay c with
 | false =>
  simp only [hm] at k91
  simp (decide:=true) [Bd_mk,r89,k91]
 | true =>
  simp only [hm] at k91
  have k129:∀ h,Sm E TRd valRd 31 [c.v] h = some (.d (bytesD (bytesE c)),h):=fun h=>(Sm_ext rt129).trans (h129 c hcb (cfgMay_pol hm).1 (Nat.le_trans (cfgMay_pol hm).2 (by decide)) h)
  generalize hB:bytesD (bytesE c) = B at *
  simp (decide:=true) [Bd_mk,r89,k91,k129]
end
structure BackH (E:Calls'):Prop where
 h31:∀ c:Cfg,c.ok -> ∃ b:Bool,∀ h,E 4 [c.v] h = some (bl b,h)
 h33:∀ h,E 5 [] h = some (bl true,h)
 h91:∀ c:Cfg,c.wf 1048576 -> c.wf big -> ∀ h,E 8 [c.v] h = some (bl (cfgMay c),h)
 h89:∀ c:Cfg,c.wf 1048576 -> c.wf big -> ∀ h,E 7 [c.v] h = some (if cfgMay c = true then .tup [.d (bytesD (bytesE c)),.d (i64 0)] else .tup [.d (.slice true []),.d (i64 1)],h)
 h94:∀ (nl:Bool) (l:List Int),byteL l -> l.length <= big -> ∀ h,E 6 [.d (Sl.d u8C ⟨nl,l⟩)] h = some (match decC l with | some c=>.tup [ag c.c,.d (i64 0)] | none=>.tup [ag (Cfg.c ⟨0,0,0,0,⟨true,[]⟩,⟨true,[]⟩,⟨true,[]⟩,⟨true,[]⟩⟩),.d (i64 2)],h)
 h93:∀ a b:Cfg,a.ok -> ∀ h,E 9 [a.v,b.v] h = some (bl (a.same b),h)
def tabL12:List (Nat × QF):=[(3,r12)]
def TL12:FuncId -> Option QF:=lookT tabL12
def valL12 (f:FuncId):Bool:=[3].any fun n=>Nat.beq n f
theorem lt12:TL12 3 = some (r12):=by kernel_rfl
theorem lv12:valL12 3 = true:=by kernel_rfl
theorem lt31:TL12 4 = none:=by kernel_rfl
theorem lt33:TL12 5 = none:=by kernel_rfl
theorem lt91:TL12 8 = none:=by kernel_rfl
theorem lt89:TL12 7 = none:=by kernel_rfl
theorem lt94:TL12 6 = none:=by kernel_rfl
theorem lt93:TL12 9 = none:=by kernel_rfl
section
variable {E:Calls'}
set_option maxHeartbeats 1000000 in
theorem R12 (H:BackH E) (c d:Cfg) (hc:c.wf 1048576) (hcb:c.wf big) (hd:d.wf 1048576) (hdb:d.wf big) {nl:Bool} {l:List Int} (hb:byteL l) (hl:l.length <= big) (cut:Int) (h:Hp) :
 Sm E TL12 valL12 3 [c.v,d.v,.d (Sl.d u8C ⟨nl,l⟩),.d (i64 cut)] h = some (bl true,h):=by
 obtain ⟨b1,k1⟩:=H.h31 c (hcb.ok (Nat.le_refl _))
 obtain ⟨b2,k2⟩:=H.h31 d (hdb.ok (Nat.le_refl _))
 have n1:∀ h,Sm E TL12 valL12 4 [c.v] h = some (bl b1,h):=fun h=>(Sm_ext lt31).trans (k1 h)
 have n2:∀ h,Sm E TL12 valL12 4 [d.v] h = some (bl b2,h):=fun h=>(Sm_ext lt31).trans (k2 h)
 have n3:∀ h,Sm E TL12 valL12 5 [] h = some (bl true,h):=fun h=>(Sm_ext lt33).trans (H.h33 h)
 have hlen:∀ h,lenv false (.d (Sl.d u8C ⟨nl,l⟩)) h = some (.d (i64 l.length),h):=fun h=>by simp [Sl.d]
 have hpc:=pure_agg c.c
 have hpd:=pure_agg d.c
 rw [Sm_v lt12 lv12]
 cases b1
 case true=>simp (decide:=true) [Bd_mk,r12,n1,n3,opsA_if,ownR,own1,ownV]
 cases b2
 case true=>simp (decide:=true) [Bd_mk,r12,n1,n2,n3,opsA_if,ownR,own1,ownV]
 by_cases hgt:(l.length:Int) > 20000
 · simp (decide:=true) [Bd_mk,r12,n1,n2,n3,hlen,hgt,opsA_if,ownR,own1,ownV]
 have n4:∀ h,Sm E TL12 valL12 6 [.d (Sl.d u8C ⟨nl,l⟩)] h = _:=fun h=>(Sm_ext lt94).trans (H.h94 nl l hb hl h)
 have n5:∀ h,Sm E TL12 valL12 7 [c.v] h = _:=fun h=>(Sm_ext lt89).trans (H.h89 c hc hcb h)
 have n6:∀ h,Sm E TL12 valL12 7 [d.v] h = _:=fun h=>(Sm_ext lt89).trans (H.h89 d hd hdb h)
 have n7:∀ h,Sm E TL12 valL12 8 [c.v] h = some (bl (cfgMay c),h):=fun h=>(Sm_ext lt91).trans (H.h91 c hc hcb h)
 have hcv:=fun h=>convBS_n (h:=h) (nl:=nl) (l:=l)
 have hdec:∀ x,decC l = some x -> ∀ h,Sm E TL12 valL12 7 [x.v] h = some (.tup [.d (bytesD l),.d (i64 0)],h):=fun x hx h=>by
  obtain ⟨e1,e2,e3⟩:=decC_bwd hb hx
  have:=(Sm_ext (E:=E) (T:=TL12) (val:=valL12) (args:=[x.v]) (h:=h) lt89).trans (H.h89 x (cfgOk.wf (by decide) e2) (cfgOk.wf (by decide) e2) h)
  rw [this,if_pos e3,← e1]
 have hS0:∀ h,convBSv (.d (bytesD l)) h = some (.d (.str (strOf l)),h):=fun h=>convBS_b
 generalize hLd:Sl.d u8C ⟨nl,l⟩ = Ld at *
 cases hmc:cfgMay c with
 | false =>
  rw [hmc] at n7
  simp only [hmc,Bool.false_eq_true,if_false] at n5
  cases hx:decC l with
  | none =>
   simp only [hx] at n4
   simp (decide:=true) [Bd_mk,r12,n1,n2,n3,n4,n5,n7,hlen,hgt,opsA_if,Cfg.c_len,cfg_put,cfg_sub,storeAt,Hp.set,ownR,own1,ownV]
  | some x =>
   simp only [hx] at n4
   have n8:=hdec x hx
   simp (decide:=true) [Bd_mk,r12,n1,n2,n3,n4,n5,n7,n8,hcv,hS0,hlen,hgt,opsA_if,Cfg.c_len,cfg_put,cfg_sub,storeAt,Hp.set,ownR,own1,ownV]
 | true =>
  simp only [hmc,if_true] at n5
  have hL:=(cfgMay_pol hmc).2
  have hLp:=bytesE_pos c
  have hbc:=bytesE_byte hmc hc
  have hfwd:=decC_fwd hmc hc
  obtain ⟨m,hm⟩:=and_ffff cut
  have hrem:=bin_rem (a:=m) hLp
  have hkl:=Nat.mod_lt m hLp
  have hcut:=decC_cut hmc hc hkl
  have hsl:=fun (hp:Hp) (ev:X -> V) (x:X) hx=>slice_to (hp:=hp) (ev:=ev) (x:=x) hLp (Nat.le_of_lt hkl) hx
  have n9:∀ h,Sm E TL12 valL12 6 [.d (bytesD (bytesE c))] h = some (.tup [ag c.can.c,.d (i64 0)],h):=fun h=>by
   have:=(Sm_ext (E:=E) (T:=TL12) (val:=valL12) (args:=[.d (Sl.d u8C ⟨false,bytesE c⟩)]) (h:=h) lt94).trans (H.h94 false (bytesE c) hbc (Nat.le_trans hL (by decide)) h)
   rw [hfwd] at this
   exact this
  have n10:∀ h,Sm E TL12 valL12 6 [.d (Sl.d u8C ⟨false,(bytesE c).take (m % (bytesE c).length)⟩)] h = some (.tup [ag (Cfg.c ⟨0,0,0,0,⟨true,[]⟩,⟨true,[]⟩,⟨true,[]⟩,⟨true,[]⟩⟩),.d (i64 2)],h):=fun h=>by
   have:=(Sm_ext (E:=E) (T:=TL12) (val:=valL12) (args:=[.d (Sl.d u8C ⟨false,(bytesE c).take (m % (bytesE c).length)⟩)]) (h:=h) lt94).trans (H.h94 false ((bytesE c).take (m % (bytesE c).length)) (fun x hx=>hbc x (List.mem_of_mem_take hx)) (by rw [List.length_take]; exact Nat.le_trans (Nat.min_le_right _ _) (Nat.le_trans hL (by decide))) h)
   rw [hcut] at this
   exact this
  have hcok:c.can.ok:=(cfgOk.wf (B:=big) (by decide) (cfgMay_ok hmc hc)).ok (Nat.le_refl _)
  have n11:∀ h,Sm E TL12 valL12 9 [c.can.v,c.v] h = some (bl true,h):=fun h=>by
   have:=(Sm_ext (E:=E) (T:=TL12) (val:=valL12) (args:=[c.can.v,c.v]) (h:=h) lt93).trans (H.h93 c.can c hcok h)
   rw [c.can_same] at this
   exact this
  have n12:∀ h,Sm E TL12 valL12 9 [c.v,d.v] h = some (bl (c.same d),h):=fun h=>(Sm_ext lt93).trans (H.h93 c d (hcb.ok (Nat.le_refl _)) h)
  have hlenC:∀ h,lenv false (.d (bytesD (bytesE c))) h = some (.d (i64 (bytesE c).length),h):=fun h=>by simp [bytesD]
  have hne0:¬ ((bytesE c).length:Int) = 0:=by omega
  have hgt2:¬ ((bytesE c).length:Int) > 8192:=by omega
  have hne0b:(((bytesE c).length:Int) == 0) = false:=by rw [beq_eq_false_iff_ne]; omega
  have hS1:∀ h,convBSv (.d (bytesD (bytesE c))) h = some (.d (.str (strOf (bytesE c))),h):=fun h=>convBS_b
  have hS2:∀ h,convBSv (.d (bytesD (bytesE d))) h = some (.d (.str (strOf (bytesE d))),h):=fun h=>convBS_b
  have hzc:(Cfg.c ⟨0,0,0,0,⟨true,[]⟩,⟨true,[]⟩,⟨true,[]⟩,⟨true,[]⟩⟩).length = 8:=rfl
  cases hmd:cfgMay d with
  | false =>
   simp only [hmd,Bool.false_eq_true,if_false] at n6
   cases hx:decC l with
   | none =>
    simp only [hx] at n4
    simp (decide:=true) [Bd_mk,r12,n1,n2,n3,n4,n5,n6,n9,n10,n11,n12,hcv,hS0,hS1,hS2,hlen,hlenC,hgt,hne0,hne0b,hgt2,hm,hrem,hsl,Cfg.c_len,cfg_put,cfg_sub,storeAt,Hp.set,opsA_if,openA,opDE_call,noTr,apartT_mute,Tr.mute,ownR,own1,ownV]
   | some x =>
    simp only [hx] at n4
    have n8:=hdec x hx
    simp (decide:=true) [n8,Bd_mk,r12,n1,n2,n3,n4,n5,n6,n9,n10,n11,n12,hcv,hS0,hS1,hS2,hlen,hlenC,hgt,hne0,hne0b,hgt2,hm,hrem,hsl,Cfg.c_len,cfg_put,cfg_sub,storeAt,Hp.set,opsA_if,openA,opDE_call,noTr,apartT_mute,Tr.mute,ownR,own1,ownV]
  | true =>
   simp only [hmd,if_true] at n6
   have heq:eqS (strOf (bytesE d)) (strOf (bytesE c)) = c.same d:=by
    have k:=strOf_eq (bytesE_byte hmd hd) hbc
    have k2:=bytesE_iff hmc hc hmd hd
    cases hs:c.same d with
    | true=>exact k.2 (k2.2 hs)
    | false =>
     cases he:eqS (strOf (bytesE d)) (strOf (bytesE c)) with
     | false=>rfl
     | true=>rw [k2.1 (k.1 he)] at hs; cases hs
   cases hx:decC l with
   | none =>
    simp only [hx] at n4
    simp (decide:=true) [heq,Bd_mk,r12,n1,n2,n3,n4,n5,n6,n9,n10,n11,n12,hcv,hS0,hS1,hS2,hlen,hlenC,hgt,hne0,hne0b,hgt2,hm,hrem,hsl,Cfg.c_len,cfg_put,cfg_sub,storeAt,Hp.set,opsA_if,openA,opDE_call,noTr,apartT_mute,Tr.mute,ownR,own1,ownV]
   | some x =>
    simp only [hx] at n4
    have n8:=hdec x hx
    simp (decide:=true) [heq,n8,Bd_mk,r12,n1,n2,n3,n4,n5,n6,n9,n10,n11,n12,hcv,hS0,hS1,hS2,hlen,hlenC,hgt,hne0,hne0b,hgt2,hm,hrem,hsl,Cfg.c_len,cfg_put,cfg_sub,storeAt,Hp.set,opsA_if,openA,opDE_call,noTr,apartT_mute,Tr.mute,ownR,own1,ownV]
end
end Go.Proofs.YthkeklemhcfbcaaGreat
namespace Go.Proofs.YthkeklemhcfbcaaGreat
def tabA:List (Nat × QF):=[(9,q126),(34,q173),(35,q174),(36,q175),(37,q176),(38,q177),(73,q286),(74,q287),(125,q355),(126,q356),(127,q357),(128,q358),(129,q359),(130,q360),(173,q420),(174,q421),(175,q422)]
def TA:FuncId -> Option QF:=lookT tabA
def valA (f:FuncId):Bool:=[9,34,35,36,37,38,73,74,125,126,127,128,129,130,173,174,175].any fun n=>Nat.beq n f
theorem a126:TA 9 = some (q126):=by kernel_rfl
theorem w126:valA 9 = true:=by kernel_rfl
theorem a173:TA 34 = some (eqlQ 7 (.agg [(.i .u64),.s,.s,(.i .i64),(.i .u32),(.i .i64),(.i .u64)])):=by kernel_rfl
theorem w173:valA 34 = true:=by kernel_rfl
theorem a174:TA 35 = some (eqlQ 5 (.agg [(.i .u64),.s,(.i .u32),(.i .i64),(.i .u64)])):=by kernel_rfl
theorem w174:valA 35 = true:=by kernel_rfl
theorem a175:TA 36 = some (eqlQ 2 (.agg [(.i .u64),(.i .i64)])):=by kernel_rfl
theorem w175:valA 36 = true:=by kernel_rfl
theorem a176:TA 37 = some (eqfQ 5 [(.d (.int .u64 0)),(.d (.str ⟨#[]⟩)),(.d (.int .u64 0)),(.d (.int .i64 0)),(.d (.slice true []))]):=by kernel_rfl
theorem w176:valA 37 = true:=by kernel_rfl
theorem a177:TA 38 = some (q177):=by kernel_rfl
theorem w177:valA 38 = true:=by kernel_rfl
theorem a286:TA 73 = some (eqfQ 3 [(.d (.slice true [])),(.d (.slice true [])),(.d (.slice true []))]):=by kernel_rfl
theorem w286:valA 73 = true:=by kernel_rfl
theorem a287:TA 74 = some (q287):=by kernel_rfl
theorem w287:valA 74 = true:=by kernel_rfl
theorem a355:TA 125 = some (eqfQ 3 [(.d (.slice true [])),(.d (.slice true [])),(.d (.slice true []))]):=by kernel_rfl
theorem w355:valA 125 = true:=by kernel_rfl
theorem a356:TA 126 = some (q356):=by kernel_rfl
theorem w356:valA 126 = true:=by kernel_rfl
theorem a357:TA 127 = some (eqfQ 4 [(.d (.slice true [])),(.d (.slice true [])),(.d (.slice true [])),(.d (.slice true []))]):=by kernel_rfl
theorem w357:valA 127 = true:=by kernel_rfl
theorem a358:TA 128 = some (q358):=by kernel_rfl
theorem w358:valA 128 = true:=by kernel_rfl
theorem a359:TA 129 = some (eqfQ 2 [(.d (.str ⟨#[]⟩)),(.d (.slice true []))]):=by kernel_rfl
theorem w359:valA 129 = true:=by kernel_rfl
theorem a360:TA 130 = some (q360):=by kernel_rfl
theorem w360:valA 130 = true:=by kernel_rfl
theorem a420:TA 173 = some (eqlQ 2 (.agg [(.i .i64),.s])):=by kernel_rfl
theorem w420:valA 173 = true:=by kernel_rfl
theorem a421:TA 174 = some (eqlQ 2 (.agg [(.i .u32),(.i .i64)])):=by kernel_rfl
theorem w421:valA 174 = true:=by kernel_rfl
theorem a422:TA 175 = some (eql1Q (.sc (.i .i64))):=by kernel_rfl
theorem w422:valA 175 = true:=by kernel_rfl
section
variable {E:Calls'}
theorem S420 (s t:Sl Term) (hs:short s) (h:Hp):Sm E TA valA 173 [.d (s.d Term.c),.d (t.d Term.c)] h = some (bl (all2 Term.eqB s.l t.l),h) :=
 S_eql (z:=2) (fun _=>rfl) (by decide) a420 w420 hs.lt (fun x y h=>eqv_term) h
theorem S421 (s t:Sl Cidr) (hs:short s) (h:Hp):Sm E TA valA 174 [.d (s.d Cidr.c),.d (t.d Cidr.c)] h = some (bl (all2 Cidr.eqB s.l t.l),h) :=
 S_eql (z:=2) (fun _=>rfl) (by decide) a421 w421 hs.lt (fun x y h=>eqv_cidr) h
theorem S422 (s t:Sl Int) (hs:short s) (h:Hp):Sm E TA valA 175 [.d (s.d intC),.d (t.d intC)] h = some (bl (all2 (fun x y:Int=>x == y) s.l t.l),h) :=
 S_eql1 (cell:=fun n=>i64 n) a422 w422 hs.lt (fun x y h=>eqv_i) h
theorem S173 (s t:Sl Pod) (hs:short s) (h:Hp):Sm E TA valA 34 [.d (s.d Pod.c),.d (t.d Pod.c)] h = some (bl (all2 Pod.eqB s.l t.l),h) :=
 S_eql (z:=7) (fun _=>rfl) (by decide) a173 w173 hs.lt (fun x y h=>eqv_pod) h
theorem S174 (s t:Sl Svc) (hs:short s) (h:Hp):Sm E TA valA 35 [.d (s.d Svc.c),.d (t.d Svc.c)] h = some (bl (all2 Svc.eqB s.l t.l),h) :=
 S_eql (z:=5) (fun _=>rfl) (by decide) a174 w174 hs.lt (fun x y h=>eqv_svc) h
theorem S175 (s t:Sl Way) (hs:short s) (h:Hp):Sm E TA valA 36 [.d (s.d Way.c),.d (t.d Way.c)] h = some (bl (all2 Way.eqB s.l t.l),h) :=
 S_eql (z:=2) (fun _=>rfl) (by decide) a175 w175 hs.lt (fun x y h=>eqv_way) h
theorem S356 (a b:Source) (ha:a.fits big) (h:Hp):Sm E TA valA 126 [ag a.c,ag b.c] h = some (bl (a.same b),h):=by
 have n1:=fun h=>S420 (E:=E) a.names b.names ha.1 h
 have n2:=fun h=>S420 (E:=E) a.spaces b.spaces ha.2.1 h
 have n3:=fun h=>S421 (E:=E) a.nets b.nets ha.2.2 h
 rw [Sm_v a356 w356]
 unfold Source.same
 generalize all2 Term.eqB a.names.l b.names.l = A1 at *
 generalize all2 Term.eqB a.spaces.l b.spaces.l = A2 at *
 generalize all2 Cidr.eqB a.nets.l b.nets.l = A3 at *
 cases A1 <;> cases A2 <;> simp (decide:=true) [Bd_mk,q356,n1,n2,n3,openA,opDE_call,noTr,opsA_if]
theorem S358 (a b:Target) (ha:a.fits big) (h:Hp):Sm E TA valA 128 [ag a.c,ag b.c] h = some (bl (a.same b),h):=by
 have n0:=fun h=>S422 (E:=E) a.ports b.ports ha.1 h
 have n1:=fun h=>S420 (E:=E) a.methods b.methods ha.2.1 h
 have n2:=fun h=>S420 (E:=E) a.paths b.paths ha.2.2.1 h
 have n3:=fun h=>S420 (E:=E) a.hosts b.hosts ha.2.2.2 h
 rw [Sm_v a358 w358]
 unfold Target.same
 generalize all2 (fun x y:Int=>x == y) a.ports.l b.ports.l = A0 at *
 generalize all2 Term.eqB a.methods.l b.methods.l = A1 at *
 generalize all2 Term.eqB a.paths.l b.paths.l = A2 at *
 generalize all2 Term.eqB a.hosts.l b.hosts.l = A3 at *
 cases A0 <;> cases A1 <;> cases A2 <;> simp (decide:=true) [Bd_mk,q358,n0,n1,n2,n3,openA,opDE_call,noTr,opsA_if]
theorem S360 (a b:When) (ha:a.fits big) (h:Hp):Sm E TA valA 130 [ag a.c,ag b.c] h = some (bl (a.same b),h):=by
 have n1:=fun h=>S420 (E:=E) a.terms b.terms ha h
 rw [Sm_v a360 w360]
 unfold When.same
 generalize all2 Term.eqB a.terms.l b.terms.l = A1 at *
 cases e1:eqS a.head b.head <;> simp (decide:=true) [Bd_mk,q360,n1,e1,openA,opDE_call,noTr,opsA_if]
theorem S287 (a b:Rule) (ha:a.fits big) (h:Hp):Sm E TA valA 74 [ag a.c,ag b.c] h = some (bl (a.same b),h):=by
 have n1:=fun h=>S_eqf (E:=E) (T:=TA) (val:=valA) (cells:=Source.c) (z:=3) (fun _=>rfl) (by decide) rfl (f:=126) (p:=Source.same) a355 w355 (s:=a.frm) (t:=b.frm) ha.1.1.lt (fun x hx y _ h=>S356 x y (ha.1.2 x hx) h) h
 have n2:=fun h=>S_eqf (E:=E) (T:=TA) (val:=valA) (cells:=Target.c) (z:=4) (fun _=>rfl) (by decide) rfl (f:=128) (p:=Target.same) a357 w357 (s:=a.to) (t:=b.to) ha.2.1.1.lt (fun x hx y _ h=>S358 x y (ha.2.1.2 x hx) h) h
 have n3:=fun h=>S_eqf (E:=E) (T:=TA) (val:=valA) (cells:=When.c) (z:=2) (fun _=>rfl) (by decide) rfl (f:=130) (p:=When.same) a359 w359 (s:=a.whn) (t:=b.whn) ha.2.2.1.lt (fun x hx y _ h=>S360 x y (ha.2.2.2 x hx) h) h
 rw [Sm_v a287 w287]
 unfold Rule.same
 generalize all2 Source.same a.frm.l b.frm.l = A1 at *
 generalize all2 Target.same a.to.l b.to.l = A2 at *
 generalize all2 When.same a.whn.l b.whn.l = A3 at *
 cases A1 <;> cases A2 <;> simp (decide:=true) [Bd_mk,q287,n1,n2,n3,openA,opDE_call,noTr,opsA_if]
theorem S177 (a b:Pol) (ha:a.fits big) (h:Hp):Sm E TA valA 38 [ag a.c,ag b.c] h = some (bl (a.same b),h):=by
 have n1:=fun h=>S_eqf (E:=E) (T:=TA) (val:=valA) (cells:=Rule.c) (z:=3) (fun _=>rfl) (by decide) rfl (f:=74) (p:=Rule.same) a286 w286 (s:=a.rules) (t:=b.rules) ha.1.lt (fun x hx y _ h=>S287 x y (ha.2 x hx) h) h
 rw [Sm_v a177 w177]
 unfold Pol.same
 generalize all2 Rule.same a.rules.l b.rules.l = A1 at *
 cases e1:(a.id == b.id)
 case false=>simp (decide:=true) [Bd_mk,q177,n1,e1,openA,opDE_call,noTr,opsA_if]
 cases e2:eqS a.ns b.ns
 case false=>simp (decide:=true) [Bd_mk,q177,n1,e1,e2,openA,opDE_call,noTr,opsA_if]
 cases e3:(a.service == b.service)
 case false=>simp (decide:=true) [Bd_mk,q177,n1,e1,e2,e3,openA,opDE_call,noTr,opsA_if]
 cases e4:(a.deny == b.deny) <;> simp (decide:=true) [Bd_mk,q177,n1,e1,e2,e3,e4,openA,opDE_call,noTr,opsA_if]
theorem S126 (a b:Cfg) (ha:a.ok) (h:Hp):Sm E TA valA 9 [a.v,b.v] h = some (bl (a.same b),h):=by
 have n1:=fun h=>S173 (E:=E) a.pods b.pods ha.1 h
 have n2:=fun h=>S174 (E:=E) a.services b.services ha.2.1 h
 have n3:=fun h=>S175 (E:=E) a.bound b.bound ha.2.2.1 h
 have n4:=fun h=>S_eqf (E:=E) (T:=TA) (val:=valA) (cells:=Pol.c) (z:=5) (fun _=>rfl) (by decide) rfl (f:=38) (p:=Pol.same) a176 w176 (s:=a.policies) (t:=b.policies) ha.2.2.2.1.lt (fun x hx y _ h=>S177 x y (ha.2.2.2.2 x hx) h) h
 rw [Sm_v a126 w126]
 unfold Cfg.same
 generalize all2 Pod.eqB a.pods.l b.pods.l = A1 at *
 generalize all2 Svc.eqB a.services.l b.services.l = A2 at *
 generalize all2 Way.eqB a.bound.l b.bound.l = A3 at *
 generalize all2 Pol.same a.policies.l b.policies.l = A4 at *
 cases e1:(a.epoch == b.epoch)
 case false=>simp (decide:=true) [Bd_mk,q126,e1,openA,opDE_call,noTr,opsA_if]
 cases e2:(a.next == b.next)
 case false=>simp (decide:=true) [Bd_mk,q126,e1,e2,openA,opDE_call,noTr,opsA_if]
 cases e3:(a.hosts == b.hosts)
 case false=>simp (decide:=true) [Bd_mk,q126,e1,e2,e3,openA,opDE_call,noTr,opsA_if]
 cases e4:(a.ways == b.ways)
 case false=>simp (decide:=true) [Bd_mk,q126,e1,e2,e3,e4,openA,opDE_call,noTr,opsA_if]
 cases A1 <;> cases A2 <;> cases A3 <;> simp (decide:=true) [Bd_mk,q126,e1,e2,e3,e4,n1,n2,n3,n4,openA,opDE_call,noTr,opsA_if]
end
end Go.Proofs.YthkeklemhcfbcaaGreat
