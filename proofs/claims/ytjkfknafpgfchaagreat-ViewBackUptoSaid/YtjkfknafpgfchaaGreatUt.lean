/- code.NewReader; policy.Decode, whole. -/
import Derived.Test.YtjkfknafpgfchaaGreatUn
import Derived.Test.YtjkfknafpgfchaaGreatUa
import Derived.Test.YtjkfknafpgfchaaGreatWo
set_option maxRecDepth 100000
set_option linter.unusedVariables false
set_option linter.unusedSimpArgs false
namespace Go.Proofs.YtjkfknafpgfchaaGreat
section
theorem C8 {nl:Bool} {c:Int} {l:List Int} (hl:(c :: l).length <= big) (bs:List Blk) (lo:Nat):dZ ⟨bs,lo⟩ 1 1 (.d (.slice true [])) (.d (Sl.d u8C ⟨nl,c :: l⟩)) = some (.row bs.length 0 (c :: l).length none 1,⟨bs ++ [.cells ((c :: l).map (iv .u8))],lo⟩):=by
 have hall:(((c :: l).map u8C).all fun e=>e.length == 1) = true:=by
  rw [List.all_eq_true];intro e he;obtain ⟨m,_,rfl⟩:=List.mem_map.1 he;rfl
 have hr:aF ⟨bs,lo⟩ (.d (Sl.d u8C ⟨nl,c :: l⟩)) 1 = some ((c :: l).length,(c :: l).map (iv .u8)):=by
  have hm:(((c :: l).map u8C).flatten).map V.d = (c :: l).map (iv .u8):=by
   rw [ww,List.map_map]; rfl
  simp only [aF,Sl.d,hall,if_true,hm,List.length_map]
 have hroom:roomy (c :: l).length 1 = true:=by simp only [roomy,Bool.and_eq_true,decide_eq_true_eq]; exact ⟨hl,by decide⟩
 simp only [dZ,hr,aC,hroom,if_true];rw [if_neg (by simp),if_neg (by decide)];rfl
section
variable {E:Calls'}
theorem Xu {nl:Bool} {l:List Int} (hb:byteL l) (hl:l.length <= big) (bs:List Blk):∃ p bs',∃ F:Nat -> Nat,(∀ lo,Sm E TRd aj 38 [.d (Sl.d u8C ⟨nl,l⟩)] ⟨bs,lo⟩ = some (.ptr p 0,⟨bs',F lo⟩)) /\ RdS p bs' (some l) /\ bs.length <= p /\ bs.length <= bs'.length /\ (∀ y,y < bs.length -> bs'[y]? = bs[y]?):=by
 cases l with
 | nil =>
  refine ⟨bs.length,bs ++ [.cells [.d (.slice true []),bl false]],fun lo=>min lo bs.length,fun lo=>?_,⟨.d (.slice true []),[],by simp,.inl ⟨rfl,true,rfl⟩,byteL.nil,Nat.zero_le _,fun b h=>by cases h; rfl⟩,Nat.le_refl _,by simp,fun y hy=>by rw [List.getElem?_append_left hy]⟩;rw [aB O7 PG];simp (decide:=true) [af,IR,Sl.d,dZ,aF,aC,aA,put,V.under,V.under.go]
 | cons c l =>
  have ha:=fun lo=>C8 (nl:=nl) hl bs lo;refine ⟨bs.length + 1,bs ++ [.cells ((c :: l).map (iv .u8)),.cells [.row bs.length 0 (c :: l).length none 1,bl false]],fun lo=>min lo bs.length,fun lo=>?_,⟨.row bs.length 0 (c :: l).length none 1,c :: l,by simp,.inr ⟨by simp,bs.length,0,(c :: l).map (iv .u8),rfl,Nat.lt_succ_self _,by simp,bB (by simp)⟩,hb,hl,fun b h=>by cases h; rfl⟩,Nat.le_succ _,by simp,fun y hy=>by rw [List.getElem?_append_left hy]⟩;rw [aB O7 PG];generalize hd:Sl.d u8C ⟨nl,c :: l⟩ = d at ha ⊢;simp (decide:=true) [af,IR,ha,aA,put,V.under,V.under.go]
end
section
variable {E:Calls'} (h404:∀ x h,E 130 [.d (u64 x)] h = some (.d (i64 (dP x)),h))
include h404
set_option maxHeartbeats 1000000 in
theorem bv0 (h378:∀ p:Pol,p.wf big -> ∀ (h:Hp) (v:V),frz h v = some (ag p.c) -> E 125 [v] h = some (bl (aS p),h)) {nl:Bool} {l:List Int} (hb:byteL l) (hl:l.length <= big) :
 match nX l with
 | some p=>∃ cs h' K,Bd E TRd aj yx [.d (Sl.d u8C ⟨nl,l⟩)] ⟨[],0⟩ = some (.tup [.agg cs,.d (i64 0)],h') /\ Hngs true K h'.bs 4 cs p.c
 | none=>∃ h',Bd E TRd aj yx [.d (Sl.d u8C ⟨nl,l⟩)] ⟨[],0⟩ = some (.tup [.agg [.d (u64 0),.d (.str ⟨#[]⟩),.d (u64 0),.d (i64 0),.d (.slice true [])],.d (i64 2)],h'):=by
 obtain ⟨p,M,F0,e0,r0,hp0,hM,hold⟩:=Xu (E:=E) (nl:=nl) hb hl [.cells [.d (u64 0),.d (.str ⟨#[]⟩),.d (u64 0),.d (i64 0),.d (.slice true [])]];simp only [List.length_cons,List.length_nil] at hp0 hM hold;have hpM:=r0.lt;have g0:ah M 0 = some [.d (u64 0),.d (.str ⟨#[]⟩),.d (u64 0),.d (i64 0),.d (.slice true [])]:=by unfold ah; rw [hold 0 (by omega)]; rfl
 obtain ⟨x1,st1,bs1,F1,e1,s1,z1,r1,o1,l1,n1,a1⟩:=rD h404 (r0.lay [.cells [.ptr p 0]]);have hl1:=o1.1;simp only [List.length_append,List.length_cons,List.length_nil] at hl1;have gQ1:ah bs1 M.length = some [.ptr p 0]:=aa o1 (by omega) (by simp);have gR1:ah bs1 0 = some [.d (u64 0),.d (.str ⟨#[]⟩),.d (u64 0),.d (i64 0),.d (.slice true [])]:=aa o1 (by omega) (au g0);obtain ⟨x2,st2,bs2,F2,e2,s2,z2,r2,o2,l2,n2,a2⟩:=wD h404 (r1.lay [.cells [.d (u64 x1),.d (.str ⟨#[]⟩),.d (u64 0),.d (i64 0),.d (.slice true [])]]) (most:=20) (by decide) (by decide);have hl2:=o2.1;simp only [List.length_append,List.length_cons,List.length_nil] at hl2;have gQ2:ah bs2 M.length = some [.ptr p 0]:=aa o2 (by omega) (au gQ1);have gR2:ah bs2 0 = some [.d (u64 0),.d (.str ⟨#[]⟩),.d (u64 0),.d (i64 0),.d (.slice true [])]:=aa o2 (by omega) (au gR1);have gN2:ah bs2 bs1.length = some [.d (u64 x1),.d (.str ⟨#[]⟩),.d (u64 0),.d (i64 0),.d (.slice true [])]:=aa o2 (by omega) (by simp);obtain ⟨x3,st3,bs3,F3,e3,s3,z3,r3,o3,l3,n3,a3⟩:=rD h404 (r2.set' (b:=bs1.length) (by omega) (.cells [.d (u64 x1),.d (.str x2),.d (u64 0),.d (i64 0),.d (.slice true [])]));have hl3:=o3.1;simp only [List.length_set] at hl3;have gQ3:ah bs3 M.length = some [.ptr p 0]:=aa o3 (by omega) (by rw [ai,if_neg (by omega)]; exact gQ2)
 have gR3:ah bs3 0 = some [.d (u64 0),.d (.str ⟨#[]⟩),.d (u64 0),.d (i64 0),.d (.slice true [])]:=aa o3 (by omega) (by rw [ai,if_neg (by omega)]; exact gR2);have gN3:ah bs3 bs1.length = some [.d (u64 x1),.d (.str x2),.d (u64 0),.d (i64 0),.d (.slice true [])]:=aa o3 (by omega) (by rw [ai,if_pos rfl,if_pos (by omega)]);obtain ⟨x4,st4,bs4,F4,e4,sz4,b4,c4,r4,o4,l4,n4,a4⟩:=ET h404 (r3.set' (b:=bs1.length) (by omega) (.cells [.d (u64 x1),.d (.str x2),.d (u64 x3),.d (i64 0),.d (.slice true [])])) (most:=1) (by decide) (by decide);have hl4:=o4.1;simp only [List.length_set] at hl4;have gQ4:ah bs4 M.length = some [.ptr p 0]:=aa o4 (by omega) (by rw [ai,if_neg (by omega)]; exact gQ3);have gR4:ah bs4 0 = some [.d (u64 0),.d (.str ⟨#[]⟩),.d (u64 0),.d (i64 0),.d (.slice true [])]:=aa o4 (by omega) (by rw [ai,if_neg (by omega)]; exact gR3);have gN4:ah bs4 bs1.length = some [.d (u64 x1),.d (.str x2),.d (u64 x3),.d (i64 0),.d (.slice true [])]:=aa o4 (by omega) (by rw [ai,if_pos rfl,if_pos (by omega)]);obtain ⟨v5,x5,st5,bs5,F5,e5,vc5,hg5,s5,r5,o5,l5,a5⟩:=Xj h404 _ _ (r4.set' (b:=bs1.length) (by omega) (.cells [.d (u64 x1),.d (.str x2),.d (u64 x3),.d (i64 x4),.d (.slice true [])]));have hl5:=o5.1;simp only [List.length_set] at hl5;have gQ5:ah bs5 M.length = some [.ptr p 0]:=aa o5 (by omega) (by rw [ai,if_neg (by omega)]; exact gQ4)
 have gR5:ah bs5 0 = some [.d (u64 0),.d (.str ⟨#[]⟩),.d (u64 0),.d (i64 0),.d (.slice true [])]:=aa o5 (by omega) (by rw [ai,if_neg (by omega)]; exact gR4);have gN5:ah bs5 bs1.length = some [.d (u64 x1),.d (.str x2),.d (u64 x3),.d (i64 x4),.d (.slice true [])]:=aa o5 (by omega) (by rw [ai,if_pos rfl,if_pos (by omega)]);obtain ⟨bs6,F6,e6,o6,l6⟩:=WG (E:=E) (r5.set' (b:=bs1.length) (by omega) (.cells [.d (u64 x1),.d (.str x2),.d (u64 x3),.d (i64 x4),v5]));have hl6:=o6.1;simp only [List.length_set] at hl6;have gN6:ah bs6 bs1.length = some [.d (u64 x1),.d (.str x2),.d (u64 x3),.d (i64 x4),v5]:=aa o6 (by omega) (by rw [ai,if_pos rfl,if_pos (by omega)]);have gR6:ah bs6 0 = some [.d (u64 0),.d (.str ⟨#[]⟩),.d (u64 0),.d (i64 0),.d (.slice true [])]:=aa o6 (by omega) (by rw [ai,if_neg (by omega)]; exact gR5);have hS:Step K4 (some l) ⟨x1,x2,x3,x4,x5⟩ st5:=Step.map (fun x:Int × ByteArray × Int × Int × Sl Rule=>(⟨x.1,x.2.1,x.2.2.1,x.2.2.2.1,x.2.2.2.2⟩:Pol)) (s1.seq (s2.seq (s3.seq (sz4.1.seq s5))));have w5:∀ x,bs4.length <= x -> x < bs5.length -> bs6[x]? = bs5[x]?:=fun x h1 h2=>by rw [o6.2 x (by omega) (by simp; omega),List.getElem?_set_ne (by omega)]
 have hh:Hng true (KL bs4.length bs5) bs6 v5 (Sl.d Rule.c x5) 3:=hg5.on (fun x hx=>w5 x (by have h1:=hx.1; simp only [List.length_set] at h1; exact h1) hx.2) fun x hx=>⟨by have h1:=hx.1; simp only [List.length_set] at h1; exact h1,hx.2⟩;have hcs:∀ K:Nat -> Prop,(∀ x,KL bs4.length bs5 x -> K x) -> Hngs true K bs6 4 [.d (u64 x1),.d (.str x2),.d (u64 x3),.d (i64 x4),v5] (Pol.c ⟨x1,x2,x3,x4,x5⟩):=fun K hK=>⟨Hng.d (by simp),Hng.d (by simp),Hng.d (by simp),Hng.d (by simp),(hh.up (by omega)).on (fun _ _=>rfl) hK,trivial⟩;have hfrz:∀ lo,frz ⟨bs6,lo⟩ (.agg [.d (u64 x1),.d (.str x2),.d (u64 x3),.d (i64 x4),v5]) = some (ag (Pol.c ⟨x1,x2,x3,x4,x5⟩)):=fun lo=>by
  have:=(Hngs.mapM (lo:=lo) (fun _ _=>rfl) (show 4 <= 8 by decide) (hcs (fun _=>True) fun _ _=>trivial)).1;simp only [frz,dD,fC,this];rfl
 have n1:¬ bs1.length = 0:=by omega
 have n2:¬ M.length = 0:=by omega
 have n3:¬ bs1.length = M.length:=by omega
 have m2:bs1.length < bs2.length:=by omega
 have m3:bs1.length < bs3.length:=by omega
 have m4:bs1.length < bs4.length:=by omega
 have m5:bs1.length < bs5.length:=by omega
 have m6:bs1.length < bs6.length:=by omega
 have m0:0 < bs6.length:=by omega
 by_cases he:st5 = some []
 · rw [if_pos he] at e6;have hpp:K4 l = some (⟨x1,x2,x3,x4,x5⟩,[]):=by
    rcases hS.of with ⟨l',h1,h2⟩ | ⟨h1,h2⟩
    · rw [he] at h2;cases h2;exact h1
    · rw [he] at h2; cases h2
   have hok:=(pol_cod.bwd l _ _ hb hpp).2;have hw:=polOk.wf (B:=big) (by decide) hok;have k378:∀ lo,Sm E TRd aj 125 [.agg [.d (u64 x1),.d (.str x2),.d (u64 x3),.d (i64 x4),v5]] ⟨bs6,lo⟩ = some (bl (aS ⟨x1,x2,x3,x4,x5⟩),⟨bs6,lo⟩):=fun lo=>(aJ bc6).trans (h378 _ hw ⟨bs6,lo⟩ _ (hfrz lo));have hd:nX l = if aS ⟨x1,x2,x3,x4,x5⟩ = true then some ⟨x1,x2,x3,x4,x5⟩ else none:=by simp only [nX,hpp]
   rw [hd];cases hm:aS ⟨x1,x2,x3,x4,x5⟩ with
   | true =>
    simp only [hm] at k378;simp only [if_true];refine ⟨[.d (u64 x1),.d (.str x2),.d (u64 x3),.d (i64 x4),v5],⟨bs6.set 0 (.cells [.d (u64 x1),.d (.str x2),.d (u64 x3),.d (i64 x4),v5]),0⟩,KL bs4.length bs5,?_,(hcs _ fun _ h=>h).on (fun x hx=>by have h1:=hx.1; rw [List.getElem?_set_ne (by omega)]) fun _ h=>h⟩;simp (decide:=true) [af,yx,e0,e1,e2,e3,e4,e5,e6,vc5.1,vc5.2,aA,storeAt,put,sub,Hp.set,fun ys=>au (ys:=ys) gQ1,gQ2,gQ3,gQ4,gQ5,gN2,gN3,gN4,gN5,gN6,gR6,ai,n1,n2,n3,m0,m2,m3,m4,m5,m6,aG,k378]
   | false =>
    simp only [hm] at k378;simp only [Bool.false_eq_true,if_false];exact ⟨_,by simp (decide:=true) [af,yx,e0,e1,e2,e3,e4,e5,e6,vc5.1,vc5.2,aA,storeAt,put,sub,Hp.set,fun ys=>au (ys:=ys) gQ1,gQ2,gQ3,gQ4,gQ5,gN2,gN3,gN4,gN5,gN6,gR6,ai,n1,n2,n3,m0,m2,m3,m4,m5,m6,aG,k378]; exact rfl⟩
 · rw [if_neg he] at e6;have hd:nX l = none:=by
    unfold nX;rcases hS.of with ⟨l',h1,h2⟩ | ⟨h1,h2⟩
    · rw [h1];cases l' with
      | nil=>exact absurd h2 he
      | cons _ _=>rfl
    · rw [h1]
   rw [hd];exact ⟨_,by simp (decide:=true) [af,yx,e0,e1,e2,e3,e4,e5,e6,vc5.1,vc5.2,aA,storeAt,put,sub,Hp.set,fun ys=>au (ys:=ys) gQ1,gQ2,gQ3,gQ4,gQ5,gN2,gN3,gN4,gN5,gN6,gR6,ai,n1,n2,n3,m0,m2,m3,m4,m5,m6,aG]; exact rfl⟩
theorem ca0 (h378:∀ p:Pol,p.wf big -> ∀ (h:Hp) (v:V),frz h v = some (ag p.c) -> E 125 [v] h = some (bl (aS p),h)) {nl:Bool} {l:List Int} (hb:byteL l) (hl:l.length <= big) {v:V} {h:Hp} (hv:frz h v = some (.d (Sl.d u8C ⟨nl,l⟩))) :
 Sm E TRd aj 139 [v] h = some (match nX l with | some p=>.tup [ag p.c,.d (i64 0)] | none=>.tup [ag (Pol.c ⟨0,⟨#[]⟩,0,0,⟨true,[]⟩⟩),.d (i64 2)],h):=by
 have k:=bv0 h404 h378 (nl:=nl) hb hl;rw [bf ay2 bg2];cases hd:nX l with
 | some p =>
  rw [hd] at k;obtain ⟨cs,h',K,k1,k2⟩:=k;have k3:=Hngs.mapM (bs':=h'.bs) (lo:=h'.low) (fun _ _=>rfl) (show 4 <= 8 by decide) k2;have hz:frz h' (.tup [.agg cs,.d (i64 0)]) = some (.tup [ag p.c,.d (i64 0)]):=by
   simp only [frz,List.mapM_cons,List.mapM_nil,dD,fC,k3.1,nW]; rfl
  have ho:lv h' (.tup [.agg cs,.d (i64 0)]) = true:=by
   simp only [lv,List.all_cons,List.all_nil,tY,k3.2 rfl]; rfl
  simp [hv,k1,hz,ho]
 | none =>
  rw [hd] at k;obtain ⟨h',k1⟩:=k;have hz:frz h' (.tup [.agg [.d (u64 0),.d (.str ⟨#[]⟩),.d (u64 0),.d (i64 0),.d (.slice true [])],.d (i64 2)]) = some (.tup [ag (Pol.c ⟨0,⟨#[]⟩,0,0,⟨true,[]⟩⟩),.d (i64 2)]):=by
   have:dD h' (.agg [.d (u64 0),.d (.str ⟨#[]⟩),.d (u64 0),.d (i64 0),.d (.slice true [])]) = some (ag (Pol.c ⟨0,⟨#[]⟩,0,0,⟨true,[]⟩⟩)):=by
    have:=fD h' 8 (Pol.c ⟨0,⟨#[]⟩,0,0,⟨true,[]⟩⟩);simp only [dD,fC];rw [show [V.d (u64 0),V.d (.str ⟨#[]⟩),V.d (u64 0),V.d (i64 0),V.d (.slice true [])] = (Pol.c ⟨0,⟨#[]⟩,0,0,⟨true,[]⟩⟩).map V.d from rfl,this];rfl
   simp only [frz,List.mapM_cons,List.mapM_nil,this,dD,nW]; rfl
  have ho:lv h' (.tup [.agg [.d (u64 0),.d (.str ⟨#[]⟩),.d (u64 0),.d (i64 0),.d (.slice true [])],.d (i64 2)]) = true:=rfl;simp [hv,k1,hz,ho]
end
end
section
theorem Ej {bs:List Blk} {B:Nat} {l:List Int} (h:ah bs B = some (l.map (iv .u8))) (lo:Nat):frz ⟨bs,lo⟩ (.row B 0 l.length none 1) = some (.d (Sl.d u8C ⟨false,l⟩)):=by
 have hm:(l.map (iv .u8)).mapM (dataV ⟨bs,lo⟩ 7) = some (l.map fun n=>D.int .u8 n):=by
  have:=fD ⟨bs,lo⟩ 7 (l.map fun n=>D.int .u8 n);rw [List.map_map] at this;exact this
 have hs:sub (l.map (iv .u8)) 0 l.length = some (l.map (iv .u8)):=bB (by simp);have hd:dataV ⟨bs,lo⟩ 8 (.row B 0 l.length none 1) = some (.slice false (l.map u8C)):=by
  simp only [dataV,get_eq,h,Nat.mul_one,hs,hm];rw [← ww];have:=iH (z:=1) (l.map u8C) (fun e he=>by obtain ⟨n,_,rfl⟩:=List.mem_map.1 he; rfl);rw [List.length_map] at this;rw [this]
 simp [frz,dD,hd,Sl.d]
theorem zR (s:ByteArray):(s.toList.map fun b=>V.d (.int .u8 b.toNat)) = (dJ s).map (iv .u8):=by
 simp [dJ,iv,Function.comp]
theorem EE {most:Int} (h0:0 <= most) {p:Nat} {bs:List Blk} {st st1:Option (List Int)} {s:ByteArray} (hR:RdS p bs st) (h:Step (iC most) st s st1) (hz:st1 = none -> s = ⟨#[]⟩):(s.size:Int) <= most:=by
 have e0:((⟨#[]⟩:ByteArray).size:Int) <= most:=by show (0:Int) <= most; exact h0
 cases st with
 | none=>rw [hz h]; exact e0
 | some b =>
  obtain ⟨v,m,g1,g2,g3,g4,g5⟩:=hR;have:=g5 b rfl;subst this;rcases h.of with ⟨l,h1,h2⟩ | ⟨h1,h2⟩
  · exact ((fe most).bwd b s l g3 h1).2.1
  · rw [hz h2]; exact e0
theorem FN:nX (dJ ⟨#[]⟩) = none:=by
 have:dJ ⟨#[]⟩ = []:=List.eq_nil_of_length_eq_zero (kg _);rw [this];rfl
theorem Qd {s:ByteArray} {h:Hp} (hs:s.size <= 2 ^ 40):qR (.d (.str s)) h = some (.row h.bs.length 0 s.size none 1,h.alloc (s.toList.map fun b=>.d (.int .u8 b.toNat))):=by
 simp only [qR,if_pos hs]; rfl
end
end Go.Proofs.YtjkfknafpgfchaaGreat
