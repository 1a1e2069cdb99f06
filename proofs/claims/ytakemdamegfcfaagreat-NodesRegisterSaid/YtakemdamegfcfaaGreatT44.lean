/- A part of a proof: what functions of the program compute. No condition. -/
import Derived.Test.YtakemdamegfcfaaGreatT33
import Derived.Test.YtakemdamegfcfaaGreatT24
import Derived.Test.YtakemdamegfcfaaGreatT30
import Derived.Test.YtakemdamegfcfaaGreatT36
import Derived.Test.YtakemdamegfcfaaGreatT43
set_option linter.unusedSimpArgs false
set_option linter.unusedVariables false
set_option maxRecDepth 20000
namespace Go.Proofs.YtakemdamegfcfaaGreat
open Go Go.Ab
theorem aUT (n:Int):aW Tryz.prog 113 [.int .i64 n] [] fun y _=>qV y:=by
 have r:=gO n 5 (by omega)
 have c:=dO n 5 (by omega) (by omega)
 generalize inF n 5=m at r c
 refine aO aR5 (by simp) ?_
 unfold aPY
 simp -implicitDefEqProofs(disch:=first|decide|omega)only[↓aA,aC,aB,simprocAttr,bB]
 refine aE (aI.of (aM:=false) (c) (.refl rfl) rfl (by simp)) ?_
 have:m=0∨m=1∨m=2∨m=3∨m=4:=by omega
 rcases this with rfl|rfl|rfl|rfl|rfl<;>simp -implicitDefEqProofs(disch:=first|decide|omega)only[↓aA,aC,aB,simprocAttr,bB]
 all_goals repeat' first
  | exact ⟨_,_,rfl⟩
  | exact .inl rfl
  | with_reducible apply And.intro
  | (simp;done)
  | simp -implicitDefEqProofs(disch:=first|decide|omega)only[↓aA,aC,aB,simprocAttr,bB,rG,List.getD_cons_zero,List.getD_cons_succ]
def aMO (y:AV):Prop:=∃ x:Inp,y= .agg (bZ x)/\aBl x
theorem Wk4.cD {α:Type} {t:Bool} {z:Nat} {F:α->AV}:Wk4 .aD (.sl t z (([]:List α).map F)):=.nil
theorem lM (l:List AV) (x:Inp) (h:W4L l (bZ x)) (ht:aBl x):∃ y,Wk4 (.agg l) y/\aMO y:=⟨.agg (bZ x),.aKn h (by simp [bZ,AV.one]),x,rfl,ht⟩
theorem aA4 {a:App} (h1:a.queue.length<=60) (h2:a.asks=[]) (h3:a.grants=[]) (h4:a.kills=[]) (h5:a.told=[]) (h6:a.lost=[]):AT a:=⟨h1,by simp [h2],by simp [h3],by simp [h4],by simp [h5],by simp [h6]⟩
set_option maxHeartbeats 2000000 in
theorem t114 {s:Sta} (h:ST s) (x:Act) (A:AV) (hA:A= .aD∨∃ l:List Ask,A= .sl false 8 (l.map ASK)/\l.length<=8) (id bt:Int) (a:App) (T:List AO):aw Tryz.prog rV (oN [.ce 4 102 35 true] fun r _=>∃ y,Wk4 r y/\aMO y) ⟨[(2,.ref 0 0 0),(3,.ref 1 0 0),(4,.ref 2 0 0),(5,.ref 3 0 0),(6,.ref 4 0 0)],.box [.int .i64 x.kind,.int .i64 x.a,.int .i64 x.b,.int .i64 x.c,.int .i64 x.d] :: .box (stC s) :: .box [.int .i64 0,.int .i64 0,.int .i64 0,.int .i64 0,.str [],.int .i64 0,.int .i64 0,.int .i64 0,.int .i64 0,.int .i64 0,.int .i64 0,.int .i64 0,.bool false,.int .i64 0,.int .i64 0,.str [],.int .i64 0,.int .i64 0,.int .i64 0,.int .i64 0,.aD,.int .i64 0,.int .i64 0,.aD,.aD,.aD,.aD,.aD,.aD,.int .i64 0,.int .i64 0,.int .i64 0,.int .i64 0,.int .i64 0,.int .i64 0] :: .box [.int .i64 5,.int .i64 id,.int .i64 bt,.int .i64 0,.str [],.int .i64 0,.int .i64 0,.int .i64 0,.int .i64 0,.int .i64 0,.int .i64 0,.int .i64 0,.bool false,.int .i64 0,.int .i64 0,.str [],.int .i64 0,.int .i64 0,.int .i64 0,.int .i64 0,.aD,.int .i64 0,.int .i64 0,.aD,.aD,.aD,.aD,A,.aD,.int .i64 0,.int .i64 0,.int .i64 0,.int .i64 0,.int .i64 0,.int .i64 0] :: .box (bI a) :: T⟩:=by
 have k1:=h.k
 rcases hA with rfl|⟨l,rfl,hl⟩
 · unfold rV
   simp -implicitDefEqProofs(disch:=first|decide|omega)only[↓aA,aC,aB,simprocAttr]
   unfold wQ
   simp -implicitDefEqProofs(disch:=first|decide|omega)only[↓aA,aC,aB,simprocAttr]
   refine aF (σ:=Nat×List Int) (fun z=>⟨[(2,.ref 0 0 0),(3,.ref 1 0 0),(4,.ref 2 0 0),(5,.ref 3 0 0),(6,.ref 4 0 0),(8,.int .i64 (z.1:Int))],[.box [.int .i64 x.kind,.int .i64 x.a,.int .i64 x.b,.int .i64 x.c,.int .i64 x.d],.box (stC s),.box [.int .i64 0,.int .i64 0,.int .i64 0,.int .i64 0,.str [],.int .i64 0,.int .i64 0,.int .i64 0,.int .i64 0,.int .i64 0,.int .i64 0,.int .i64 0,.bool false,.int .i64 0,.int .i64 0,.str [],.int .i64 0,.int .i64 0,.int .i64 0,.int .i64 0,.aD,.int .i64 0,.int .i64 0,.aD,.aD,.aD,.aD,.aD,.aD,.int .i64 0,.int .i64 0,.int .i64 0,.int .i64 0,.int .i64 0,.int .i64 0],.box [.int .i64 5,.int .i64 id,.int .i64 bt,.int .i64 0,.str [],.int .i64 0,.int .i64 0,.int .i64 0,.int .i64 0,.int .i64 0,.int .i64 0,.int .i64 0,.bool false,.int .i64 0,.int .i64 0,.str [],.int .i64 0,.int .i64 0,.int .i64 0,.int .i64 0,.aD,.int .i64 0,.int .i64 0,.aD,.aD,.aD,.aD,.aD,.own 5 1 0 z.2.length,.int .i64 0,.int .i64 0,.int .i64 0,.int .i64 0,.int .i64 0,.int .i64 0],.box (bI a),.arr 1 (z.2.map I64)]⟩) (fun z=>z.1<=s.conts.length/\z.2.length<=z.1) (fun z=>s.conts.length-z.1) (0,[]) ?_ ⟨by simp,by simp⟩ ?_
   · (refine Sub.of0 [some 0,some 1,some 2,some 3,some 4,none] rfl ?_ rfl ?_<;>repeat' first|trivial|rfl|exact .inl rfl|exact .inr ⟨rfl,_,_,rfl⟩|(simp;done)|(simp;omega)|refine And.intro ?_ ?_)
   rintro ⟨i,L⟩ ⟨hi,hL⟩
   simp only at hi hL
   unfold wP
   by_cases hn:i<s.conts.length
   · simp -implicitDefEqProofs(disch:=first|decide|omega)only[↓aA,aC,aB,simprocAttr,bB,aY,bI]
     repeat' first
      | with_reducible apply And.intro
      | omega
      | exact ⟨(i+1,L),.inl rfl,⟨by simp only;omega,by simp only;omega⟩,by simp only;omega⟩
      | (refine bP (dO _ _ (by omega) (by omega)) rfl rfl ?_;simp -implicitDefEqProofs(disch:=first|decide|omega)only[↓aA,aC,aB,simprocAttr,bB,aY,bI])
      | (refine aE (aI.of (aM:=false) (dO _ _ (by omega) (by omega)) (.refl rfl) rfl (by simp)) ?_;simp -implicitDefEqProofs(disch:=first|decide|omega)only[↓aA,aC,aB,simprocAttr,bB,aY,bI])
      | (refine bC (fun hb=>?_) (fun hb=>?_)<;>simp -implicitDefEqProofs(disch:=first|decide|omega)only[↓aA,aC,aB,simprocAttr,hb,bB,aY,bI])
      | (refine a8 (fun hb=>?_) (fun hb=>?_)<;>simp -implicitDefEqProofs(disch:=first|decide|omega)only[↓aA,aC,aB,simprocAttr,hb,bB,aY,bI])
      | (refine ⟨(i+1,L++[(s.conts.getD i default).id]),?_,⟨by simp only;omega,by simp;omega⟩,by simp only;omega⟩
         simp only [List.length_append,List.map_append,List.map_cons,List.map_nil,List.length_cons,List.length_nil]
         (refine Sub.of0 [some 0,some 1,some 2,some 3,some 4,some 7] rfl ?_ rfl ?_<;>repeat' first|trivial|rfl|exact .inl rfl|exact .inr ⟨rfl,_,_,rfl⟩|(simp;done)|(simp;omega)|refine And.intro ?_ ?_)
         done)
   · simp -implicitDefEqProofs(disch:=first|decide|omega)only[↓aA,aC,aB,simprocAttr,bB,aY]
     refine dF 5 rfl ?_
     simp -implicitDefEqProofs(disch:=first|decide|omega)only[↓aA,aC,aB,simprocAttr,AO.fz,AV.fz1,bB]
     refine dZ ?_
     simp -implicitDefEqProofs(disch:=first|decide|omega)only[↓aA,aC,aB,simprocAttr,bB]
     exact lM _ ⟨_,_,_,_,_,⟨_,_,_,_,_,_,_,_⟩,⟨_,_,_,_,_,_,_,_,_,_,_,_,_,_⟩,_,_,⟨_,_,_,_,_,_⟩⟩ ⟨.refl _,.refl _,.refl _,.refl _,.refl _,.refl _,.refl _,.refl _,.refl _,.refl _,.refl _,.refl _,.refl _,.refl _,.refl _,.refl _,.refl _,.refl _,.refl _,.refl _,.cD,.refl _,.refl _,.cD,.cD,.cD,.cD,.cD,.refl _,.refl _,.refl _,.refl _,.refl _,.refl _,.refl _,trivial⟩ ⟨Nat.zero_le _,aA4 (Nat.zero_le _) rfl rfl rfl rfl rfl,Nat.zero_le _,by simp only;omega⟩
 · unfold rV
   simp -implicitDefEqProofs(disch:=first|decide|omega)only[↓aA,aC,aB,simprocAttr]
   unfold wQ
   simp -implicitDefEqProofs(disch:=first|decide|omega)only[↓aA,aC,aB,simprocAttr]
   refine aF (σ:=Nat×List Int) (fun z=>⟨[(2,.ref 0 0 0),(3,.ref 1 0 0),(4,.ref 2 0 0),(5,.ref 3 0 0),(6,.ref 4 0 0),(8,.int .i64 (z.1:Int))],[.box [.int .i64 x.kind,.int .i64 x.a,.int .i64 x.b,.int .i64 x.c,.int .i64 x.d],.box (stC s),.box [.int .i64 0,.int .i64 0,.int .i64 0,.int .i64 0,.str [],.int .i64 0,.int .i64 0,.int .i64 0,.int .i64 0,.int .i64 0,.int .i64 0,.int .i64 0,.bool false,.int .i64 0,.int .i64 0,.str [],.int .i64 0,.int .i64 0,.int .i64 0,.int .i64 0,.aD,.int .i64 0,.int .i64 0,.aD,.aD,.aD,.aD,.aD,.aD,.int .i64 0,.int .i64 0,.int .i64 0,.int .i64 0,.int .i64 0,.int .i64 0],.box [.int .i64 5,.int .i64 id,.int .i64 bt,.int .i64 0,.str [],.int .i64 0,.int .i64 0,.int .i64 0,.int .i64 0,.int .i64 0,.int .i64 0,.int .i64 0,.bool false,.int .i64 0,.int .i64 0,.str [],.int .i64 0,.int .i64 0,.int .i64 0,.int .i64 0,.aD,.int .i64 0,.int .i64 0,.aD,.aD,.aD,.aD,.sl false 8 (l.map ASK),.own 5 1 0 z.2.length,.int .i64 0,.int .i64 0,.int .i64 0,.int .i64 0,.int .i64 0,.int .i64 0],.box (bI a),.arr 1 (z.2.map I64)]⟩) (fun z=>z.1<=s.conts.length/\z.2.length<=z.1) (fun z=>s.conts.length-z.1) (0,[]) ?_ ⟨by simp,by simp⟩ ?_
   · (refine Sub.of0 [some 0,some 1,some 2,some 3,some 4,none] rfl ?_ rfl ?_<;>repeat' first|trivial|rfl|exact .inl rfl|exact .inr ⟨rfl,_,_,rfl⟩|(simp;done)|(simp;omega)|refine And.intro ?_ ?_)
   rintro ⟨i,L⟩ ⟨hi,hL⟩
   simp only at hi hL
   unfold wP
   by_cases hn:i<s.conts.length
   · simp -implicitDefEqProofs(disch:=first|decide|omega)only[↓aA,aC,aB,simprocAttr,bB,aY,bI]
     repeat' first
      | with_reducible apply And.intro
      | omega
      | exact ⟨(i+1,L),.inl rfl,⟨by simp only;omega,by simp only;omega⟩,by simp only;omega⟩
      | (refine bP (dO _ _ (by omega) (by omega)) rfl rfl ?_;simp -implicitDefEqProofs(disch:=first|decide|omega)only[↓aA,aC,aB,simprocAttr,bB,aY,bI])
      | (refine aE (aI.of (aM:=false) (dO _ _ (by omega) (by omega)) (.refl rfl) rfl (by simp)) ?_;simp -implicitDefEqProofs(disch:=first|decide|omega)only[↓aA,aC,aB,simprocAttr,bB,aY,bI])
      | (refine bC (fun hb=>?_) (fun hb=>?_)<;>simp -implicitDefEqProofs(disch:=first|decide|omega)only[↓aA,aC,aB,simprocAttr,hb,bB,aY,bI])
      | (refine a8 (fun hb=>?_) (fun hb=>?_)<;>simp -implicitDefEqProofs(disch:=first|decide|omega)only[↓aA,aC,aB,simprocAttr,hb,bB,aY,bI])
      | (refine ⟨(i+1,L++[(s.conts.getD i default).id]),?_,⟨by simp only;omega,by simp;omega⟩,by simp only;omega⟩
         simp only [List.length_append,List.map_append,List.map_cons,List.map_nil,List.length_cons,List.length_nil]
         (refine Sub.of0 [some 0,some 1,some 2,some 3,some 4,some 7] rfl ?_ rfl ?_<;>repeat' first|trivial|rfl|exact .inl rfl|exact .inr ⟨rfl,_,_,rfl⟩|(simp;done)|(simp;omega)|refine And.intro ?_ ?_)
         done)
   · simp -implicitDefEqProofs(disch:=first|decide|omega)only[↓aA,aC,aB,simprocAttr,bB,aY]
     refine dF 5 rfl ?_
     simp -implicitDefEqProofs(disch:=first|decide|omega)only[↓aA,aC,aB,simprocAttr,AO.fz,AV.fz1,bB]
     refine dZ ?_
     simp -implicitDefEqProofs(disch:=first|decide|omega)only[↓aA,aC,aB,simprocAttr,bB]
     exact lM _ ⟨_,_,_,_,_,⟨_,_,_,_,_,_,_,_⟩,⟨_,_,_,_,_,_,_,_,_,_,_,_,_,_⟩,_,_,⟨_,_,_,_,_,_⟩⟩ ⟨.refl _,.refl _,.refl _,.refl _,.refl _,.refl _,.refl _,.refl _,.refl _,.refl _,.refl _,.refl _,.refl _,.refl _,.refl _,.refl _,.refl _,.refl _,.refl _,.refl _,.cD,.refl _,.refl _,.cD,.cD,.cD,.cD,.refl _,.refl _,.refl _,.refl _,.refl _,.refl _,.refl _,.refl _,trivial⟩ ⟨Nat.zero_le _,aA4 (Nat.zero_le _) rfl rfl rfl rfl rfl,hl,by simp only;omega⟩
set_option maxHeartbeats 2000000 in
theorem aYG {s:Sta} (h:ST s) (x:Act):aW Tryz.prog 114 [ACT x,.agg (stC s)] [] fun y _=>aMO y:=by
 have k3:=h.a
 have hl1:=h.c.l1
 have hl3:=h.c.l3
 refine cX (aO aMM (by simp) ?_)
 unfold aOj
 by_cases ha:s.apps.length=0
 · simp -implicitDefEqProofs(disch:=first|decide|omega)only[↓aA,aC,aB,simprocAttr,bB,ACT,ha]
   exact lM _ ⟨_,_,_,_,_,⟨_,_,_,_,_,_,_,_⟩,⟨_,_,_,_,_,_,_,_,_,_,_,_,_,_⟩,_,_,⟨_,_,_,_,_,_⟩⟩ ⟨.refl _,.refl _,.refl _,.refl _,.refl _,.refl _,.refl _,.refl _,.refl _,.refl _,.refl _,.refl _,.refl _,.refl _,.refl _,.refl _,.refl _,.refl _,.refl _,.refl _,.cD,.refl _,.refl _,.cD,.cD,.cD,.cD,.cD,.cD,.refl _,.refl _,.refl _,.refl _,.refl _,.refl _,trivial⟩ ⟨Nat.zero_le _,aA4 (Nat.zero_le _) rfl rfl rfl rfl rfl,Nat.zero_le _,Nat.zero_le _⟩
 have r:=gO x.a s.apps.length (by omega)
 have c:=dO x.a s.apps.length (by omega) (by omega)
 generalize inF x.a s.apps.length=m at r c
 simp -implicitDefEqProofs(disch:=first|decide|omega)only[↓aA,aC,aB,simprocAttr,bB,ACT,ha]
 repeat' first
  | with_reducible apply And.intro
  | omega
  | (refine bP (c) rfl rfl ?_;simp -implicitDefEqProofs(disch:=first|decide|omega)only[↓aA,aC,aB,simprocAttr,bB,a9])
  | exact t114 h x _ (.inl rfl) _ _ _ _
  | exact t114 h x _ (.inr ⟨[⟨_,_,_,_,_,_,_,_⟩],rfl,by simp⟩) _ _ _ _
  | (refine bP (dO _ _ (by omega) (by omega)) rfl rfl ?_;simp -implicitDefEqProofs(disch:=first|decide|omega)only[↓aA,aC,aB,simprocAttr,bB,a9,bF])
  | (refine aE (aI.of (aM:=false) (dO _ _ (by omega) (by omega)) (.refl rfl) rfl (by simp)) ?_;simp -implicitDefEqProofs(disch:=first|decide|omega)only[↓aA,aC,aB,simprocAttr,bB,a9,bF])
  | (refine a7 (aUT _) rfl (by rintro _ ⟨_,_,rfl⟩;rfl) ?_;rintro _ ⟨va,vb,rfl⟩;simp -implicitDefEqProofs(disch:=first|decide|omega)only[↓aA,aC,aB,simprocAttr,bB,a9,bF])
  | (refine a8 (fun hb=>?_) (fun hb=>?_)<;>simp -implicitDefEqProofs(disch:=first|decide|omega)only[↓aA,aC,aB,simprocAttr,hb,bB,a9,bF])
end Go.Proofs.YtakemdamegfcfaaGreat
