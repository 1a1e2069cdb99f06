/- A part of a proof: what functions of the program compute. No condition. -/
import Derived.Test.YtakemdamegfcfaaGreatT38
import Derived.Test.YtakemdamegfcfaaGreatT43
import Derived.Test.YtakemdamegfcfaaGreatT42
set_option linter.unusedSimpArgs false
set_option linter.unusedVariables false
set_option maxRecDepth 20000
namespace Go.Proofs.YtakemdamegfcfaaGreat
open Go Go.Ab
set_option maxHeartbeats 16000000 in
theorem a28 (s:Sta) (h:NOk s) (hs:Srt Node.id s.nodes) (id b:Int):aT Tryz.prog 30 [.agg (stC s),.int .i64 id,.int .i64 b] (sH (pD s id b)):=by
 have hn36:=h.n
 have hown:=aMo s h
 have hat:=aMA s (by omega) id
 have bo:=@aNx
 obtain ⟨ls,qs,nodes,apps,conts,slots,plans,now,ep,sq⟩:=s
 unfold aT
 refine aO a4W (by simp) ?_
 unfold a5q sH
 unfold owN at hown
 simp only at hn36 hown hs
 simp -implicitDefEqProofs(disch:=first|decide|omega)only[↓aA,aC,aB,simprocAttr,x8,bB,aN]
 refine nI hown rfl rfl ?_
 rintro y G ⟨rfl,rfl⟩
 simp -implicitDefEqProofs(disch:=first|decide|omega)only[↓aA,aC,aB,simprocAttr,x8,AV.ren,AO.ren,up,AV.lG,bB,aN]
 refine aE (aI.of (aM:=true) hat (.cons (bo (s:=⟨ls,qs,nodes,apps,conts,slots,plans,now,ep,sq⟩) (i:=2) (j:=3) (k:=4) rfl rfl rfl) (.cons (Vw.refl rfl) .nil)) rfl (fun _=>rfl)) ?_
 unfold pD
 rcases yU (idP id) nodes with ⟨e1,e2⟩|⟨i,hi,e1,hp,e2,hn⟩
 · have e3:eH id nodes=none:=e2
   rw [e1]
   simp only [e3]
   simp -implicitDefEqProofs(disch:=first|decide|omega)only[↓aA,aC,aB,simprocAttr,x8,bB,aN]
 · have e3:eH id nodes=some nodes[i]:=e2
   have hg:nodes.getD i default=nodes[i]:=by simp [hi]
   rw [e1]
   simp only [e3]
   cases hu:nodes[i].up
   · simp -implicitDefEqProofs(disch:=first|decide|omega)only[↓aA,aC,aB,simprocAttr,x8,bB,aN,hg,hu]
     omega
   by_cases c1:b<0
   · simp -implicitDefEqProofs(disch:=first|decide|omega)only[↓aA,aC,aB,simprocAttr,x8,bB,aN,hg,hu,c1]
     omega
   by_cases c2:b<nodes[i].beat
   · simp -implicitDefEqProofs(disch:=first|decide|omega)only[↓aA,aC,aB,simprocAttr,x8,bB,aN,hg,hu,c1,c2]
     omega
   by_cases c3:1<IntKind.i64.wrap (b-nodes[i].beat)
   · simp -implicitDefEqProofs(disch:=first|decide|omega)only[↓aA,aC,aB,simprocAttr,x8,bB,aN,hg,hu,c1,c2,c3]
     omega
   have htk:∀ m:Node,List.take nodes.length (nodes.set i m)=nodes.set i m:=fun m=>List.take_of_length_le (by simp)
   have hgs:∀ m:Node,(nodes.set i m).getD i default=m:=fun m=>by simp [hi]
   have eput:∀ m:Node,m.id=nodes[i].id->eE Node.id m nodes=nodes.set i m:=fun m hm=>by
    rw [lI (k:=i) (by omega) (fun j hj=>by rw [hm];exact List.pairwise_iff_getElem.1 hs j i (by omega) hi hj) (fun _=>by rw [hm];omega),dif_pos hi,if_pos hm.symm,List.set_eq_take_append_cons_drop,if_pos hi]
   simp -implicitDefEqProofs(disch:=first|decide|omega)only[↓aA,aC,aB,simprocAttr,x8,bB,aN,hg,hu,c1,c2,c3,hgs,List.set_set,List.length_set]
   unfold jM
   simp only [hu,eput ⟨nodes[i].id,nodes[i].label,nodes[i].rack,nodes[i].mem,nodes[i].cores,now,b,true⟩ rfl,htk]
   repeat' first
    | with_reducible apply And.intro
    | omega
    | rfl
    | trivial
theorem a2F (s:Sta) (id b:Int):((pD s id b).1=s)∨((pD s id b).2=0/\∃ x,(pD s id b).1=jM s x):=by
 unfold pD
 split
 · exact .inl rfl
 split
 · exact .inl rfl
 split
 · exact .inl rfl
 split
 · exact .inl rfl
 split
 · exact .inl rfl
 · exact .inr ⟨rfl,_,rfl⟩
set_option maxHeartbeats 4000000 in
theorem aOl {s:Sta} {B:Nat} (h:II B s) (hB:B<=2^39) (id b:Int) (o:AO) (T:List AO) (hT:T=[]∨∃ o,T=[o]) (R:bX) (hR:R=[(9,.ref 1 0 0)]∨∃ w R',R=(3,w) :: (9,.ref 1 0 0) :: R'):aw Tryz.prog a2M (aG1 [8] fun y _=>y= .bool true) ⟨(1,.int .i64 id) :: (2,.int .i64 b) :: R,o :: .box (stC s) :: T⟩:=by
 have K:=okS h hB
 have beatP:=a28 s (a2n K) h.nS id b
 have beatR:=aHV s (by have:=K.st.n;omega) id b
 have same0:=a1U K s rfl rfl (by omega) rfl rfl rfl rfl
 unfold sH at beatP beatR
 unfold a2M
 rcases hT with rfl|⟨o2,rfl⟩<;>rcases hR with rfl|⟨w,R',rfl⟩
 all_goals
  simp -implicitDefEqProofs(disch:=first|decide|omega)only[↓aA,aC,aB,simprocAttr,x8,bB,aN]
  refine aE (aI.of (aM:=false) (beatP) (.refl rfl) rfl (by simp)) ?_
  simp -implicitDefEqProofs(disch:=first|decide|omega)only[↓aA,aC,aB,simprocAttr,x8,bB,aN]
  refine aE (aI.of (aM:=false) (beatR) (.refl rfl) rfl (by simp)) ?_
  rcases a2F s id b with e|⟨e,y,ey⟩
  · rw [e]
    simp -implicitDefEqProofs(disch:=first|decide|omega)only[↓aA,aC,aB,simprocAttr,x8,bB,beq_self_eq_true]
    repeat' first
     | rfl
     | (refine aE (aI.of (aM:=false) (same0) (.refl rfl) rfl (by simp)) ?_;simp -implicitDefEqProofs(disch:=first|decide|omega)only[↓aA,aC,aB,simprocAttr,x8,bB])
     | (refine bC (fun hb=>?_) (fun hb=>?_)<;>simp -implicitDefEqProofs(disch:=first|decide|omega)only[↓aA,aC,aB,simprocAttr,x8,hb,bB])
  · have same1:aT Tryz.prog 19 [.agg (stC (pD s id b).1),.agg (stC (pD s id b).1)] (.bool true):=a1U K _ (by rw [ey];rfl) (by rw [ey];rfl) (by rw [ey];exact mD) (by rw [ey];rfl) (by rw [ey];rfl) (by rw [ey];rfl) (by rw [ey];rfl)
    rw [e]
    simp -implicitDefEqProofs(disch:=first|decide|omega)only[↓aA,aC,aB,simprocAttr,x8,bB,beq_self_eq_true]
    refine aE (aI.of (aM:=false) (same1) (.refl rfl) rfl (by simp)) ?_
    simp -implicitDefEqProofs(disch:=first|decide|omega)only[↓aA,aC,aB,simprocAttr,x8,bB]
set_option maxHeartbeats 4000000 in
theorem a5t (x:Scr) (id b w:Int):aW Tryz.prog 6 [.agg (jJ x),.int .i64 id,.int .i64 b,.int .i64 w] [] fun y _=>y= .bool true:=by
 refine aK is6 (by simp) ?_
 unfold cc6
 have kf:=aSv x
 have ks:=aGB x
 generalize hx:wM x=q at kf ks
 unfold jJ at kf ks ⊢
 simp -implicitDefEqProofs(disch:=first|decide|omega)only[↓aA,aC,aB,simprocAttr,x8,bB,aN]
 refine aE (aI.of (aM:=false) (aIe) (.refl rfl) rfl (by simp)) ?_
 simp -implicitDefEqProofs(disch:=first|decide|omega)only[↓aA,aC,aB,simprocAttr,x8,bB,aN]
 refine aE (aI.of (aM:=false) (kf) (.refl rfl) rfl (by simp)) ?_
 cases q
 · simp -implicitDefEqProofs(disch:=first|decide|omega)only[↓aA,aC,aB,simprocAttr,x8,bB]
 simp -implicitDefEqProofs(disch:=first|decide|omega)only[↓aA,aC,aB,simprocAttr,x8,bB,aN]
 refine aH (ks rfl) rfl (fun y hy=>zZ hy) ?_
 rintro _ ⟨s,rfl,h⟩
 have K:=okS h (by omega)
 have hn:=K.st.n
 by_cases h0:s.nodes.length=0
 · simp -implicitDefEqProofs(disch:=first|decide|omega)only[↓aA,aC,aB,simprocAttr,x8,bB,aN,h0]
   exact aOl h (by omega) _ _ _ [] (.inl rfl) _ (.inr ⟨_,_,rfl⟩)
 have r:=gO id s.nodes.length (by omega)
 have c:=a2i id s.nodes.length (by omega) (by omega)
 generalize inF id s.nodes.length=m at r c
 simp -implicitDefEqProofs(disch:=first|decide|omega)only[↓aA,aC,aB,simprocAttr,x8,bB,aN,h0]
 repeat' first
  | with_reducible apply And.intro
  | omega
  | (refine bP (c) rfl rfl ?_;simp -implicitDefEqProofs(disch:=first|decide|omega)only[↓aA,aC,aB,simprocAttr,x8,bB,aN])
  | (refine bC (fun hb=>?_) (fun hb=>?_)<;>simp -implicitDefEqProofs(disch:=first|decide|omega)only[↓aA,aC,aB,simprocAttr,x8,hb,bB,aN])
  | (refine a8 (fun hb=>?_) (fun hb=>?_)<;>simp -implicitDefEqProofs(disch:=first|decide|omega)only[↓aA,aC,aB,simprocAttr,x8,hb,bB,aN])
 · exact aOl h (by omega) _ _ _ [_] (.inr ⟨_,rfl⟩) [(9,.ref 1 0 0)] (.inl rfl)
 · exact aOl h (by omega) _ _ _ [_] (.inr ⟨_,rfl⟩) _ (.inr ⟨_,_,rfl⟩)
 · exact aOl h (by omega) _ _ _ [_] (.inr ⟨_,rfl⟩) [(9,.ref 1 0 0)] (.inl rfl)
 · exact aOl h (by omega) _ _ _ [_] (.inr ⟨_,rfl⟩) _ (.inr ⟨_,_,rfl⟩)
 · exact aOl h (by omega) _ _ _ [] (.inl rfl) _ (.inr ⟨_,_,rfl⟩)
theorem a24 (x:Scr) (id b w:Int):aW Tryz.prog 6 [SCR x,I64 id,I64 b,I64 w] [] fun y _=>y= .bool true:=aGb x (a5t x id b w) rfl fun y hy=>by subst hy;exact ⟨rfl,rfl⟩
end Go.Proofs.YtakemdamegfcfaaGreat
