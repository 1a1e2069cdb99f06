/- A part of a proof: what functions of the program compute. No condition. -/
import Derived.Test.YtakemdamegfcfaaGreatT31
set_option linter.unusedSimpArgs false
set_option linter.unusedVariables false
set_option maxRecDepth 20000
namespace Go.Proofs.YtakemdamegfcfaaGreat
open Go Go.Ab
theorem q57 (n:Int) (l:List Int) (hl:l.length<=30):aW Tryz.prog 57 [.int .i64 n,.sl true 1 (l.map I64)] [] fun y _=>∃ ls qs,y= .agg (bN ls qs)/\CL ls qs:=(aMX n l hl).mono fun _ _ h=>h.1
set_option maxHeartbeats 4000000 in
theorem q58 {s:Sta} (h:ST s) (x:Act):aW Tryz.prog 58 [ACT x,.agg (stC s)] [] fun y _=>aMO y:=by
 have k1:=h.k
 have k2:=h.n
 have hl1:=h.c.l1
 have hl3:=h.c.l3
 have hq1:=h.c.q1
 have clv:=aFq s.labels s.qs h.c.qz
 have hlv1:=aFr (qs:=s.qs) (by rintro e;rw [e] at hq1;simp at hq1)
 have hlv2:∀ p∈(o6 s.qs).map Queue.path,p.length<=60:=fun p hp=>by
  obtain ⟨q,hq,rfl⟩:=List.mem_map.1 hp
  exact (h.c.qr q (List.mem_filter.1 hq).1).path
 have hlv3:(o6 s.qs).length<=16:=Nat.le_trans (List.length_filter_le _ _) h.c.q3
 rw [<- List.length_map (f:=Queue.path)] at hlv1 hlv3
 unfold bN at clv
 generalize (o6 s.qs).map Queue.path=LV at clv hlv1 hlv2 hlv3
 have r1:=gO x.a 6 (by omega)
 have p1:=dO x.a 6 (by omega) (by omega)
 generalize inF x.a 6=id at r1 p1
 have r2:=gO x.b 4 (by omega)
 have p2:=dO x.b 4 (by omega) (by omega)
 generalize inF x.b 4=n at r2 p2
 have r3:=gO x.kind 16 (by omega)
 have p3:=dO x.kind 16 (by omega) (by omega)
 generalize inF x.kind 16=kd at r3 p3
 have hlvd:∀ i,(LV.getD i default).length<=60:=fun i=>by
  rw [List.getD_eq_getElem?_getD]
  cases e:LV[i]? with
  | none=>simp;decide
  | some y=>exact hlv2 y (List.mem_of_getElem? e)
 have r4:=gO x.b 2 (by omega)
 have e2:inF x.b 2=0∨inF x.b 2=1:=by omega
 have r5:=gO x.d 3 (by omega)
 have e3:inF x.d 3=0∨inF x.d 3=1∨inF x.d 3=2:=by omega
 have r6:=gO x.a 3 (by omega)
 have e4:inF x.a 3=0∨inF x.a 3=1∨inF x.a 3=2:=by omega
 have r7:=gO x.b LV.length (by omega)
 have r8:=gO x.a 20 (by omega)
 refine cX (aO aRw (by simp) ?_)
 unfold aXi
 simp -implicitDefEqProofs(disch:=first|decide|omega)only[↓aA,aC,aB,simprocAttr,bB,ACT]
 repeat' first
  | with_reducible apply And.intro
  | omega
  | (refine bP (p1) rfl rfl ?_;simp -implicitDefEqProofs(disch:=first|decide|omega)only[↓aA,aC,aB,simprocAttr,bB])
  | (refine aE (aI.of (aM:=false) (clv) (.refl rfl) rfl (by simp)) ?_;simp -implicitDefEqProofs(disch:=first|decide|omega)only[↓aA,aC,aB,simprocAttr,bB])
  | (refine aE (aI.of (aM:=false) (p2) (.refl rfl) rfl (by simp)) ?_;simp -implicitDefEqProofs(disch:=first|decide|omega)only[↓aA,aC,aB,simprocAttr,bB])
  | (refine aE (aI.of (aM:=false) (p3) (.refl rfl) rfl (by simp)) ?_;simp -implicitDefEqProofs(disch:=first|decide|omega)only[↓aA,aC,aB,simprocAttr,bB])
  | refine dZ ?_
  | exact ⟨_,.refl _,_,rfl,‹aBl _›⟩
  | exact lM _ ⟨_,_,_,_,_,⟨_,_,_,_,_,_,_,_⟩,⟨_,_,_,_,_,_,_,_,_,_,_,_,_,_⟩,_,_,⟨_,_,_,_,_,_⟩⟩ ⟨.refl _,.refl _,.refl _,.refl _,.refl _,.refl _,.refl _,.refl _,.refl _,.refl _,.refl _,.refl _,.refl _,.refl _,.refl _,.refl _,.refl _,.refl _,.refl _,.refl _,.cD,.refl _,.refl _,.cD,.cD,.cD,.cD,.cD,.cD,.refl _,.refl _,.refl _,.refl _,.refl _,.refl _,trivial⟩ ⟨Nat.zero_le _,aA4 (Nat.zero_le _) rfl rfl rfl rfl rfl,Nat.zero_le _,Nat.zero_le _,(show (0:Int)<=8999 by decide)⟩
  | exact lM _ ⟨_,_,_,_,_,⟨_,_,_,_,_,_,_,_⟩,⟨_,_,_,_,_,_,_,_,_,_,_,_,_,_⟩,_,_,⟨_,_,_,_,_,_⟩⟩ ⟨.refl _,.refl _,.refl _,.refl _,.refl _,.refl _,.refl _,.refl _,.refl _,.refl _,.refl _,.refl _,.refl _,.refl _,.refl _,.refl _,.refl _,.refl _,.refl _,.refl _,.cD,.refl _,.refl _,.cD,.cD,.cD,.cD,.cD,.cD,.refl _,.refl _,.refl _,.refl _,.refl _,.refl _,trivial⟩ ⟨Nat.zero_le _,aA4 (hlvd _) rfl rfl rfl rfl rfl,Nat.zero_le _,Nat.zero_le _,(show inF x.a 20<=8999 by omega)⟩
  | exact lM _ ⟨_,_,_,_,_,⟨_,_,_,_,_,_,_,_⟩,⟨_,_,_,_,_,_,_,_,_,_,_,_,_,_⟩,_,_,⟨_,_,_,_,_,_⟩⟩ ⟨.refl _,.refl _,.refl _,.refl _,.refl _,.refl _,.refl _,.refl _,.refl _,.refl _,.refl _,.refl _,.refl _,.refl _,.refl _,.refl _,.refl _,.refl _,.refl _,.refl _,.cD,.refl _,.refl _,.cD,.cD,.cD,.cD,.cD,.cD,.refl _,.refl _,.refl _,.refl _,.refl _,.refl _,trivial⟩ ⟨‹_<=4000›,aA4 (Nat.zero_le _) rfl rfl rfl rfl rfl,Nat.zero_le _,Nat.zero_le _,(show (0:Int)<=8999 by decide)⟩
  | (refine bP (dO _ _ (by omega) (by omega)) rfl rfl ?_;simp -implicitDefEqProofs(disch:=first|decide|omega)only[↓aA,aC,aB,simprocAttr,bB])
  | (refine aE (aI.of (aM:=false) (dO _ _ (by omega) (by omega)) (.refl rfl) rfl (by simp)) ?_;simp -implicitDefEqProofs(disch:=first|decide|omega)only[↓aA,aC,aB,simprocAttr,bB])
  | (refine a7 (aUT _) rfl (by rintro _ ⟨_,_,rfl⟩;rfl) ?_;rintro _ ⟨va,vb,rfl⟩;simp -implicitDefEqProofs(disch:=first|decide|omega)only[↓aA,aC,aB,simprocAttr,bB])
  | (refine aH (aYG h x) rfl (by rintro _ ⟨_,rfl,_⟩;rfl) ?_;rintro _ ⟨xi,rfl,hxi⟩;simp -implicitDefEqProofs(disch:=first|decide|omega)only[↓aA,aC,aB,simprocAttr,bB,bZ])
  | (refine nH (q57 _ [x.c,x.d] (by simp)) (.cons (Vw.refl rfl) (.cons (Vw.wA (l:=[x.c,x.d]) (f:=I64) rfl rfl) .nil)) (by rintro _ ⟨_,_,rfl,_⟩;exact ⟨rfl,rfl⟩) ?_;rintro _ ⟨ls,qs,rfl,hcl⟩;simp -implicitDefEqProofs(disch:=first|decide|omega)only[↓aA,aC,aB,simprocAttr,bB])
  | (refine aH (aBp ‹CL _ _›) rfl (by rintro _ ⟨_,rfl,_⟩;rfl) ?_;rintro _ ⟨tx,rfl,htx⟩;simp -implicitDefEqProofs(disch:=first|decide|omega)only[↓aA,aC,aB,simprocAttr,bB])
  | (rcases e2 with e|e<;>simp -implicitDefEqProofs(disch:=first|decide|omega)only[↓aA,aC,aB,simprocAttr,bB,e,rG,List.getD_cons_zero,List.getD_cons_succ])
  | (rcases e3 with e|e|e<;>simp -implicitDefEqProofs(disch:=first|decide|omega)only[↓aA,aC,aB,simprocAttr,bB,e,rG,List.getD_cons_zero,List.getD_cons_succ])
  | (rcases e4 with e|e|e<;>simp -implicitDefEqProofs(disch:=first|decide|omega)only[↓aA,aC,aB,simprocAttr,bB,e,rG,List.getD_cons_zero,List.getD_cons_succ])
  | (refine a8 (fun hb=>?_) (fun hb=>?_)<;>simp -implicitDefEqProofs(disch:=first|decide|omega)only[↓aA,aC,aB,simprocAttr,hb,bB])
 all_goals
  unfold aIY
  refine Ya ?_
  refine aF (σ:=Nat×Int) (fun z=>⟨[(2,.ref 0 0 0),(3,.ref 1 0 0),(4,.ref 2 0 0),(5,.int .i64 id),(8,.ref 3 0 0),(9,.int .i64 (z.1:Int))],[.box [.int .i64 x.kind,.int .i64 x.a,.int .i64 x.b,.int .i64 x.c,.int .i64 x.d],.box (stC s),.box [.int .i64 0,.int .i64 0,.int .i64 0,.int .i64 0,.str [],.int .i64 0,.int .i64 0,.int .i64 0,.int .i64 0,.int .i64 0,.int .i64 0,.int .i64 0,.bool false,.int .i64 0,.int .i64 0,.str [],.int .i64 0,.int .i64 0,.int .i64 0,.int .i64 0,.aD,.int .i64 0,.int .i64 0,.aD,.aD,.aD,.aD,.aD,.aD,.int .i64 0,.int .i64 0,.int .i64 0,.int .i64 0,.int .i64 0,.int .i64 0],.box [.int .i64 3,.int .i64 id,.int .i64 z.2,.int .i64 (1+n),.str [],.int .i64 0,.int .i64 0,.int .i64 0,.int .i64 0,.int .i64 0,.int .i64 0,.int .i64 0,.bool false,.int .i64 0,.int .i64 0,.str [],.int .i64 0,.int .i64 0,.int .i64 0,.int .i64 0,.aD,.int .i64 0,.int .i64 0,.aD,.aD,.aD,.aD,.aD,.aD,.int .i64 0,.int .i64 0,.int .i64 0,.int .i64 0,.int .i64 0,.int .i64 0]]⟩) (fun z=>z.1<=s.nodes.length) (fun z=>s.nodes.length-z.1) (0,0) ?_ (by simp) ?_
  · exact Sub.ofS [some 0,some 1,some 2,some 3]
  rintro ⟨i,bt⟩ hi
  simp only at hi
  unfold aIW
  by_cases hn:i<s.nodes.length
  · simp -implicitDefEqProofs(disch:=first|decide|omega)only[↓aA,aC,aB,simprocAttr,bB,aN]
    repeat' first
     | with_reducible apply And.intro
     | omega
     | exact ⟨(i+1,_),.inl rfl,by simp only;omega,by simp only;omega⟩
     | (refine bP (dO _ _ (by omega) (by omega)) rfl rfl ?_;simp -implicitDefEqProofs(disch:=first|decide|omega)only[↓aA,aC,aB,simprocAttr,bB,aN])
     | (refine a8 (fun hb=>?_) (fun hb=>?_)<;>simp -implicitDefEqProofs(disch:=first|decide|omega)only[↓aA,aC,aB,simprocAttr,hb,bB,aN])
  refine Yb ?_
  unfold aIZ
  refine Ya ?_
  refine aF (σ:=Nat×List Int) (fun z=>⟨[(2,.ref 0 0 0),(3,.ref 1 0 0),(4,.ref 2 0 0),(5,.int .i64 id),(8,.ref 3 0 0),(10,.int .i64 (z.1:Int))],[.box [.int .i64 x.kind,.int .i64 x.a,.int .i64 x.b,.int .i64 x.c,.int .i64 x.d],.box (stC s),.box [.int .i64 0,.int .i64 0,.int .i64 0,.int .i64 0,.str [],.int .i64 0,.int .i64 0,.int .i64 0,.int .i64 0,.int .i64 0,.int .i64 0,.int .i64 0,.bool false,.int .i64 0,.int .i64 0,.str [],.int .i64 0,.int .i64 0,.int .i64 0,.int .i64 0,.aD,.int .i64 0,.int .i64 0,.aD,.aD,.aD,.aD,.aD,.aD,.int .i64 0,.int .i64 0,.int .i64 0,.int .i64 0,.int .i64 0,.int .i64 0],.box [.int .i64 3,.int .i64 id,.int .i64 bt,.int .i64 (1+n),.str [],.int .i64 0,.int .i64 0,.int .i64 0,.int .i64 0,.int .i64 0,.int .i64 0,.int .i64 0,.bool false,.int .i64 0,.int .i64 0,.str [],.int .i64 0,.int .i64 0,.int .i64 0,.int .i64 0,.aD,.int .i64 0,.int .i64 0,.aD,.aD,.aD,.aD,.aD,.own 4 1 0 z.2.length,.int .i64 0,.int .i64 0,.int .i64 0,.int .i64 0,.int .i64 0,.int .i64 0],.arr 1 (z.2.map I64)]⟩) (fun z=>z.1<=s.conts.length/\z.2.length<=z.1) (fun z=>s.conts.length-z.1) (0,[]) ?_ ⟨by simp,by simp⟩ ?_
  · exact Sub.ofS [some 0,some 1,some 2,some 3,none]
  rintro ⟨i,L⟩ ⟨hi,hL⟩
  simp only at hi hL
  unfold aIX
  by_cases hn:i<s.conts.length
  · simp -implicitDefEqProofs(disch:=first|decide|omega)only[↓aA,aC,aB,simprocAttr,bB,aY]
    repeat' first
     | with_reducible apply And.intro
     | omega
     | exact ⟨(i+1,L),.inl rfl,⟨by simp only;omega,by simp only;omega⟩,by simp only;omega⟩
     | (refine aE (aI.of (aM:=false) (dO _ _ (by omega) (by omega)) (.refl rfl) rfl (by simp)) ?_;simp -implicitDefEqProofs(disch:=first|decide|omega)only[↓aA,aC,aB,simprocAttr,bB,aY])
     | (refine bC (fun hb=>?_) (fun hb=>?_)<;>simp -implicitDefEqProofs(disch:=first|decide|omega)only[↓aA,aC,aB,simprocAttr,hb,bB,aY])
     | (refine a8 (fun hb=>?_) (fun hb=>?_)<;>simp -implicitDefEqProofs(disch:=first|decide|omega)only[↓aA,aC,aB,simprocAttr,hb,bB,aY])
     | (refine ⟨(i+1,L++[(s.conts.getD i default).id]),?_,⟨by simp only;omega,by simp;omega⟩,by simp only;omega⟩
        simp only [List.length_append,List.map_append,List.map_cons,List.map_nil,List.length_cons,List.length_nil]
        exact Sub.ofS [some 0,some 1,some 2,some 3,some 6]
        done)
  · refine Yc ?_
    refine dF 4 rfl ?_
    refine Yn ?_
    refine dZ ?_
    refine Yb ?_
    exact lM _ ⟨_,_,_,_,_,⟨_,_,_,_,_,_,_,_⟩,⟨_,_,_,_,_,_,_,_,_,_,_,_,_,_⟩,_,_,⟨_,_,_,_,_,_⟩⟩ ⟨.refl _,.refl _,.refl _,.refl _,.refl _,.refl _,.refl _,.refl _,.refl _,.refl _,.refl _,.refl _,.refl _,.refl _,.refl _,.refl _,.refl _,.refl _,.refl _,.refl _,.cD,.refl _,.refl _,.cD,.cD,.cD,.cD,.cD,.refl _,.refl _,.refl _,.refl _,.refl _,.refl _,.refl _,trivial⟩ ⟨Nat.zero_le _,aA4 (Nat.zero_le _) rfl rfl rfl rfl rfl,Nat.zero_le _,by simp only;omega,(show (0:Int)<=8999 by decide)⟩
end Go.Proofs.YtakemdamegfcfaaGreat
