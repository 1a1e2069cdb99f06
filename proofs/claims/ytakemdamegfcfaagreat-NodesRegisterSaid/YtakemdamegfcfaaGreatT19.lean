/- A part of a proof: what functions of the program compute. No condition. -/
import Derived.Test.YtakemdamegfcfaaGreatT18
import Derived.Test.YtakemdamegfcfaaGreatProg
import Derived.KernelRfl
import Derived.Test.YtakemdamegfcfaaGreatT6
set_option linter.unusedSimpArgs false
set_option linter.unusedVariables false
set_option maxHeartbeats 16000000
set_option maxRecDepth 100000
namespace Go.Proofs.YtakemdamegfcfaaGreat
open Go Go.Ab
def vX (a:App):Prop:=a.id<0∨a.id>9999∨a.user<0∨a.user>99∨a.prio<0∨a.prio>9∨¬ (1<=a.mem/\a.mem<=2^30)∨¬ (1<=a.cores/\a.cores<=2^30)
instance (a:App):Decidable (vX a):=by unfold vX;exact inferInstance
def lU (s:Sta):Sta:=if 16<=s.apps.length then { s with apps:=cG s.apps } else s
def pJ (s:Sta) (a:App):Sta×Int :=
 if vX a then (s,1) else if (dP a.id s.apps).isSome then (s,7) else if 16<=(s.apps.filter live).length then (s,4)
 else if iM s.qs a.queue then (iJ (lU s) (hY a s.now),0) else (s,19)
set_option maxHeartbeats 1000000 in
theorem aEY (s:Sta) (hl:s.apps.length<2^37) (hq:QZ s.qs) (a:App):aT Tryz.prog 37 [.agg (stC s),APP a] (sH (pJ s a)):=by
 have h1:=gV s (by omega) a.id
 have h6:=sQ s.labels s.qs hq a.queue
 have h7:=y4 a
 have h8:=aFG s (by omega)
 have hm:=zI a.mem
 have hc:=zI a.cores
 unfold aT
 refine aO aVr (by simp) ?_
 unfold aXH sH
 unfold stC at h1 h8
 unfold dT at h1
 unfold bN at h6
 by_cases c1:a.id<0
 · have e:pJ s a=(s,1):=if_pos (.inl c1)
   rw [e]
   simp -implicitDefEqProofs(disch:=first|decide|omega)only[↓aA,aC,aB,simprocAttr,bB,a9,c1]
 by_cases c2:a.id>9999
 · have e:pJ s a=(s,1):=if_pos (.inr (.inl c2))
   rw [e]
   simp -implicitDefEqProofs(disch:=first|decide|omega)only[↓aA,aC,aB,simprocAttr,bB,a9,c1,c2]
 by_cases c3:a.user<0
 · have e:pJ s a=(s,1):=if_pos (.inr (.inr (.inl c3)))
   rw [e]
   simp -implicitDefEqProofs(disch:=first|decide|omega)only[↓aA,aC,aB,simprocAttr,bB,a9,c1,c2,c3]
 by_cases c4:a.user>99
 · have e:pJ s a=(s,1):=if_pos (.inr (.inr (.inr (.inl c4))))
   rw [e]
   simp -implicitDefEqProofs(disch:=first|decide|omega)only[↓aA,aC,aB,simprocAttr,bB,a9,c1,c2,c3,c4]
 by_cases c5:a.prio<0
 · have e:pJ s a=(s,1):=if_pos (.inr (.inr (.inr (.inr (.inl c5)))))
   rw [e]
   simp -implicitDefEqProofs(disch:=first|decide|omega)only[↓aA,aC,aB,simprocAttr,bB,a9,c1,c2,c3,c4,c5]
 by_cases c6:a.prio>9
 · have e:pJ s a=(s,1):=if_pos (.inr (.inr (.inr (.inr (.inr (.inl c6))))))
   rw [e]
   simp -implicitDefEqProofs(disch:=first|decide|omega)only[↓aA,aC,aB,simprocAttr,bB,a9,c1,c2,c3,c4,c5,c6]
 simp -implicitDefEqProofs(disch:=first|decide|omega)only[↓aA,aC,aB,simprocAttr,bB,a9,c1,c2,c3,c4,c5,c6]
 by_cases c7:1<=a.mem/\a.mem<=2^30
 case neg =>
  have e:pJ s a=(s,1):=if_pos (.inr (.inr (.inr (.inr (.inr (.inr (.inl c7)))))))
  rw [e]
  rw [decide_eq_false c7] at hm
  refine aE (aI.of (aM:=false) (hm) (.refl rfl) rfl (by simp)) ?_
  simp -implicitDefEqProofs(disch:=first|decide|omega)only[↓aA,aC,aB,simprocAttr,bB,a9]
 rw [decide_eq_true c7] at hm
 refine aE (aI.of (aM:=false) (hm) (.refl rfl) rfl (by simp)) ?_
 simp -implicitDefEqProofs(disch:=first|decide|omega)only[↓aA,aC,aB,simprocAttr,bB,a9]
 by_cases c8:1<=a.cores/\a.cores<=2^30
 case neg =>
  have e:pJ s a=(s,1):=if_pos (.inr (.inr (.inr (.inr (.inr (.inr (.inr c8)))))))
  rw [e]
  rw [decide_eq_false c8] at hc
  refine aE (aI.of (aM:=false) (hc) (.refl rfl) rfl (by simp)) ?_
  simp -implicitDefEqProofs(disch:=first|decide|omega)only[↓aA,aC,aB,simprocAttr,bB,a9]
 rw [decide_eq_true c8] at hc
 refine aE (aI.of (aM:=false) (hc) (.refl rfl) rfl (by simp)) ?_
 simp -implicitDefEqProofs(disch:=first|decide|omega)only[↓aA,aC,aB,simprocAttr,bB,a9]
 refine aE (aI.of (aM:=false) (h1) (.refl rfl) rfl (by simp)) ?_
 have e:pJ s a=if (dP a.id s.apps).isSome then (s,7) else if 16<=(s.apps.filter live).length then (s,4)
  else if iM s.qs a.queue then (iJ (lU s) (hY a s.now),0) else (s,19):=if_neg (by rintro (h|h|h|h|h|h|h|h)<;>first|omega|exact h c7|exact h c8)
 cases hf:(dP a.id s.apps).isSome
 case true =>
  rw [hf,if_pos rfl] at e
  rw [e]
  simp -implicitDefEqProofs(disch:=first|decide|omega)only[↓aA,aC,aB,simprocAttr,bB,a9]
 rw [hf,if_neg (by simp)] at e
 have hfn:dP a.id s.apps=none:=by simpa using hf
 rw [hfn,Option.getD_none]
 simp -implicitDefEqProofs(disch:=first|decide|omega)only[↓aA,aC,aB,simprocAttr,bB,a9]
 unfold aJI
 simp -implicitDefEqProofs(disch:=first|decide|omega)only[↓aA,aC,aB,simprocAttr]
 refine aF (σ:=Nat) (fun k=>⟨[(2,.ref 0 0 0),(3,.ref 1 0 0),(4,.ref 2 0 0),(8,.int .i64 (((s.apps.take k).filter live).length:Int)),(9,.int .i64 (k:Int))],[.box (stC s),.box (bI a),.box [.aD,.aD,.aD,.aD,.aD,.aD,.aD,.int .i64 0,.int .i64 0,.int .i64 0]]⟩) (fun k=>k<=s.apps.length) (fun k=>s.apps.length-k) 0 ?_ (by omega) ?_
 · (refine Sub.of0 [some 0,some 1,some 2] rfl ?_ rfl ?_<;>repeat' first|trivial|rfl|exact .inl rfl|exact .inr ⟨rfl,_,_,rfl⟩|(simp;done)|(simp;omega)|refine And.intro ?_ ?_)
 rintro k hk
 unfold aJH
 have hfl:=dA (p:=live) (l:=s.apps) (k:=k)
 by_cases hki:k<s.apps.length
 · have hg:s.apps.getD k default=s.apps[k]:=by simp [hki]
   have e2:=cH (p:=live) hki
   have h42:=fX s.apps[k]
   generalize hout:(s.apps.take k).filter live=out at e2 hfl ⊢
   cases hv:live s.apps[k]
   · rw [hv] at e2 h42
     rw [if_neg (by simp),List.append_nil] at e2
     simp -implicitDefEqProofs(disch:=first|decide|omega)only[↓aA,aC,aB,simprocAttr,bB,a9,hg]
     repeat refine And.intro (by omega) ?_
     refine aE (aI.of (aM:=false) (h42) (.refl rfl) rfl (by simp)) ?_
     simp -implicitDefEqProofs(disch:=first|decide|omega)only[↓aA,aC,aB,simprocAttr]
     refine ⟨k+1,?_,by omega,by omega⟩
     simp only [e2]
     exact .inl rfl
   · rw [hv] at e2 h42
     rw [if_pos rfl] at e2
     simp -implicitDefEqProofs(disch:=first|decide|omega)only[↓aA,aC,aB,simprocAttr,bB,a9,hg]
     repeat refine And.intro (by omega) ?_
     refine aE (aI.of (aM:=false) (h42) (.refl rfl) rfl (by simp)) ?_
     simp -implicitDefEqProofs(disch:=first|decide|omega)only[↓aA,aC,aB,simprocAttr]
     repeat refine And.intro (by omega) ?_
     refine ⟨k+1,?_,by omega,by omega⟩
     simp only [e2,List.length_append,List.length_cons,List.length_nil]
     exact .inl rfl
 · have:k=s.apps.length:=by omega
   subst this
   rw [List.take_length] at hfl ⊢
   by_cases c9:16<=(s.apps.filter live).length
   · rw [if_pos c9] at e
     rw [e]
     simp -implicitDefEqProofs(disch:=first|decide|omega)only[↓aA,aC,aB,simprocAttr,bB,a9,c9]
   · rw [if_neg c9] at e
     cases hv:iM s.qs a.queue
     · rw [hv,if_neg (by simp)] at e
       rw [hv] at h6
       rw [e]
       simp -implicitDefEqProofs(disch:=first|decide|omega)only[↓aA,aC,aB,simprocAttr,bB,a9,c9]
       refine aE (aI.of (aM:=false) (h6) (.refl rfl) rfl (by simp)) ?_
       simp -implicitDefEqProofs(disch:=first|decide|omega)only[↓aA,aC,aB,simprocAttr,bB,a9]
     · rw [hv,if_pos rfl] at e
       rw [hv] at h6
       rw [e]
       simp -implicitDefEqProofs(disch:=first|decide|omega)only[↓aA,aC,aB,simprocAttr,bB,a9,c9]
       refine aE (aI.of (aM:=false) (h6) (.refl rfl) rfl (by simp)) ?_
       by_cases c10:16<=s.apps.length
       · have er:lU s={ s with apps:=cG s.apps }:=if_pos c10
         have c44:=gB { s with apps:=cG s.apps } (by have:=qW s.apps;simp only;omega) (hY a s.now)
         rw [er]
         simp -implicitDefEqProofs(disch:=first|decide|omega)only[↓aA,aC,aB,simprocAttr,bB,a9,c10]
         refine aE (aI.of (aM:=false) (h8) (.refl rfl) rfl (by simp)) ?_
         simp -implicitDefEqProofs(disch:=first|decide|omega)only[↓aA,aC,aB,simprocAttr,bB,a9]
         refine bP (h7) rfl rfl ?_
         simp -implicitDefEqProofs(disch:=first|decide|omega)only[↓aA,aC,aB,simprocAttr,bB,a9]
         refine aG7 c44 (fun H=>.cons (Vw.refl rfl) (.cons (Vw.wk (.inl (.inr ⟨_,_,rfl,rfl,by simp [WkL,Wk1,bI,hY]⟩)) rfl) .nil)) rfl ?_
         simp -implicitDefEqProofs(disch:=first|decide|omega)only[↓aA,aC,aB,simprocAttr,bB]
       · have er:lU s=s:=if_neg c10
         have c44:=gB s (by omega) (hY a s.now)
         rw [er]
         simp -implicitDefEqProofs(disch:=first|decide|omega)only[↓aA,aC,aB,simprocAttr,bB,a9,c10]
         refine bP (h7) rfl rfl ?_
         simp -implicitDefEqProofs(disch:=first|decide|omega)only[↓aA,aC,aB,simprocAttr,bB,a9]
         refine aG7 c44 (fun H=>.cons (Vw.refl rfl) (.cons (Vw.wk (.inl (.inr ⟨_,_,rfl,rfl,by simp [WkL,Wk1,bI,hY]⟩)) rfl) .nil)) rfl ?_
         simp -implicitDefEqProofs(disch:=first|decide|omega)only[↓aA,aC,aB,simprocAttr,bB]
def a1e:{c:CC // aJ Tryz.prog 153=c}:=⟨_,by conv=>lhs;reduce⟩
def aT0:{c:CC // bA Tryz.prog 153 {} a1e.1 []=c}:=⟨_,by conv=>lhs;reduce⟩
def aDT:CC:=(fun (c:CC) (_:(aT0.1.aV [1,1,0,1,0,0])=c)=>c) _ (by conv=>lhs;reduce)
def aDU:CC:=(fun (c:CC->CC) (_:(fun a0=>(aT0.1.aV [1,1,0,1]).aU [0,0] a0)=c)=>c) _ (by conv=>lhs;reduce) aDT
def aPA:CC:=(fun (c:CC->CC) (_:(fun a0=>(aT0.1).aU [1,1,0,1] a0)=c)=>c) _ (by conv=>lhs;reduce) aDU
theorem aR1:aX Tryz.prog 153 aPA [.ce 4 41 10 true] 33:=aX.mk (by kernel_rfl) ⟨Tryz.f153,_,Tryz.func153,rfl,by kernel_rfl,by kernel_rfl,by kernel_rfl,by kernel_rfl,by kernel_rfl⟩ ⟨by kernel_rfl,trivial⟩
def a01:{c:CC // aJ Tryz.prog 178=c}:=⟨_,by conv=>lhs;reduce⟩
def aZH:{c:CC // bA Tryz.prog 178 {} a01.1 []=c}:=⟨_,by conv=>lhs;reduce⟩
def aPn:CC:=(fun (c:CC) (_:(aZH.1)=c)=>c) _ (by conv=>lhs;reduce)
theorem aWg:aZ Tryz.prog 178 aPn [4] 76:=aZ.mk (by kernel_rfl) ⟨Tryz.f178,_,Tryz.func178,rfl,by kernel_rfl,by kernel_rfl,by kernel_rfl,by kernel_rfl,by kernel_rfl⟩
def a00:{c:CC // aJ Tryz.prog 179=c}:=⟨_,by conv=>lhs;reduce⟩
def aTQ:{c:CC // bA Tryz.prog 179 {} a00.1 []=c}:=⟨_,by conv=>lhs;reduce⟩
def aDv:CC:=(fun (c:CC) (_:(aTQ.1.aV [1,1,1,1,0,1,0,0])=c)=>c) _ (by conv=>lhs;reduce)
def aDw:CC:=(fun (c:CC->CC) (_:(fun a0=>(aTQ.1.aV [1,1,1,1,0,1]).aU [0,0] a0)=c)=>c) _ (by conv=>lhs;reduce) aDv
def aPm:CC:=(fun (c:CC->CC) (_:(fun a0=>(aTQ.1).aU [1,1,1,1,0,1] a0)=c)=>c) _ (by conv=>lhs;reduce) aDw
theorem aWf:aZ Tryz.prog 179 aPm [4,5] 60:=aZ.mk (by kernel_rfl) ⟨Tryz.f179,_,Tryz.func179,rfl,by kernel_rfl,by kernel_rfl,by kernel_rfl,by kernel_rfl,by kernel_rfl⟩
def a0S:{c:CC // aJ Tryz.prog 193=c}:=⟨_,by conv=>lhs;reduce⟩
def aTL:{c:CC // bA Tryz.prog 193 {} a0S.1 []=c}:=⟨_,by conv=>lhs;reduce⟩
def aDb:CC:=(fun (c:CC) (_:(aTL.1.aV [1,0,1,0,0])=c)=>c) _ (by conv=>lhs;reduce)
def aDc:CC:=(fun (c:CC->CC) (_:(fun a0=>(aTL.1.aV [1,0,1]).aU [0,0] a0)=c)=>c) _ (by conv=>lhs;reduce) aDb
def aPe:CC:=(fun (c:CC->CC) (_:(fun a0=>(aTL.1).aU [1,0,1] a0)=c)=>c) _ (by conv=>lhs;reduce) aDc
theorem aRT:aX Tryz.prog 193 aPe [.ce 4 86 3 true,.tm 5] 28:=aX.mk (by kernel_rfl) ⟨Tryz.f193,_,Tryz.func193,rfl,by kernel_rfl,by kernel_rfl,by kernel_rfl,by kernel_rfl,by kernel_rfl⟩ ⟨by kernel_rfl,trivial⟩
def a0P:{c:CC // aJ Tryz.prog 196=c}:=⟨_,by conv=>lhs;reduce⟩
def aZF:{c:CC // bA Tryz.prog 196 {} a0P.1 []=c}:=⟨_,by conv=>lhs;reduce⟩
def aPb:CC:=(fun (c:CC) (_:(aZF.1)=c)=>c) _ (by conv=>lhs;reduce)
theorem aWa:aZ Tryz.prog 196 aPb [2] 9:=aZ.mk (by kernel_rfl) ⟨Tryz.f196,_,Tryz.func196,rfl,by kernel_rfl,by kernel_rfl,by kernel_rfl,by kernel_rfl,by kernel_rfl⟩
def a0G:{c:CC // aJ Tryz.prog 205=c}:=⟨_,by conv=>lhs;reduce⟩
def aZC:{c:CC // bA Tryz.prog 205 {} a0G.1 []=c}:=⟨_,by conv=>lhs;reduce⟩
def aO2:CC:=(fun (c:CC) (_:(aZC.1)=c)=>c) _ (by conv=>lhs;reduce)
theorem aV3:aZ Tryz.prog 205 aO2 [4] 17:=aZ.mk (by kernel_rfl) ⟨Tryz.f205,_,Tryz.func205,rfl,by kernel_rfl,by kernel_rfl,by kernel_rfl,by kernel_rfl,by kernel_rfl⟩
def a0E:{c:CC // aJ Tryz.prog 211=c}:=⟨_,by conv=>lhs;reduce⟩
def aTE:{c:CC // bA Tryz.prog 211 {} a0E.1 []=c}:=⟨_,by conv=>lhs;reduce⟩
def aCL:CC:=(fun (c:CC) (_:(aTE.1.aV [1,0,1,0,0])=c)=>c) _ (by conv=>lhs;reduce)
def aCM:CC:=(fun (c:CC->CC) (_:(fun a0=>(aTE.1.aV [1,0,1]).aU [0,0] a0)=c)=>c) _ (by conv=>lhs;reduce) aCL
def aO0:CC:=(fun (c:CC->CC) (_:(fun a0=>(aTE.1).aU [1,0,1] a0)=c)=>c) _ (by conv=>lhs;reduce) aCM
theorem aRN:aX Tryz.prog 211 aO0 [.ce 4 89 8 true,.tm 5] 25:=aX.mk (by kernel_rfl) ⟨Tryz.f211,_,Tryz.func211,rfl,by kernel_rfl,by kernel_rfl,by kernel_rfl,by kernel_rfl,by kernel_rfl⟩ ⟨by kernel_rfl,trivial⟩
def a0z:{c:CC // aJ Tryz.prog 216=c}:=⟨_,by conv=>lhs;reduce⟩
def aNX:{c:CC // bA Tryz.prog 216 { ty:=[(true,11)] } a0z.1 [([1,1,1,1,0,1,0],(.p [0,2] (.f [1,3,4,5,6,7,8,9]) (.p [3,4] (.f [1,5,6,7,8,9]) (.f [5,1,6,7,8,9])))),([1,1,1,1,0,1,1],(.p [1,4,2] (.p [0] (.f [3,5,6,7,8,9]) (.p [5] (.f [3,6,7,8,9]) (.f [6,3,7,8,9]))) (.p [5] (.p [0] (.f [3,6,7,8,9]) (.f [6,3,7,8,9])) (.f [6,0,3,7,8,9])))),([1,1,1,1,1,1,1,1,1,1,0],(.p [0,1] (.p [2] (.f [3,4,5]) (.f [4,3,5])) (.f [3,2,4,5])))]=c}:=⟨_,by conv=>lhs;reduce⟩
def wS:CC:=(fun (c:CC) (_:(aNX.1.aV [1,1,1,1,1,1,0,0,0])=c)=>c) _ (by conv=>lhs;reduce)
def wT:CC:=(fun (c:CC->CC) (_:(fun a0=>(aNX.1.aV [1,1,1,1,1,1,0]).aU [0,0] a0)=c)=>c) _ (by conv=>lhs;reduce) wS
def pB:CC:=(fun (c:CC->CC) (_:(fun a0=>(aNX.1.aV [1,1,1,1,1]).aU [1,0] a0)=c)=>c) _ (by conv=>lhs;reduce) wT
def aOV:CC:=(fun (c:CC->CC) (_:(fun a0=>(aNX.1).aU [1,1,1,1,1] a0)=c)=>c) _ (by conv=>lhs;reduce) pB
theorem aRM:aX Tryz.prog 216 aOV [.ce 8 41 10 true,.ce 9 82 9 true] 102:=aX.mk (by kernel_rfl) ⟨Tryz.f216,_,Tryz.func216,rfl,by kernel_rfl,by kernel_rfl,by kernel_rfl,by kernel_rfl,by kernel_rfl⟩ ⟨by kernel_rfl,by kernel_rfl,trivial⟩
def a0k:{c:CC // aJ Tryz.prog 233=c}:=⟨_,by conv=>lhs;reduce⟩
def aTx:{c:CC // bA Tryz.prog 233 {} a0k.1 []=c}:=⟨_,by conv=>lhs;reduce⟩
def aCr:CC:=(fun (c:CC) (_:(aTx.1.aV [1,1,1,0,1,0,0])=c)=>c) _ (by conv=>lhs;reduce)
def aCs:CC:=(fun (c:CC->CC) (_:(fun a0=>(aTx.1.aV [1,1,1,0,1]).aU [0,0] a0)=c)=>c) _ (by conv=>lhs;reduce) aCr
def aOH:CC:=(fun (c:CC->CC) (_:(fun a0=>(aTx.1).aU [1,1,1,0,1] a0)=c)=>c) _ (by conv=>lhs;reduce) aCs
theorem aVT:aZ Tryz.prog 233 aOH [4,5] 38:=aZ.mk (by kernel_rfl) ⟨Tryz.f233,_,Tryz.func233,rfl,by kernel_rfl,by kernel_rfl,by kernel_rfl,by kernel_rfl,by kernel_rfl⟩
def a0i:{c:CC // aJ Tryz.prog 235=c}:=⟨_,by conv=>lhs;reduce⟩
def aTv:{c:CC // bA Tryz.prog 235 {} a0i.1 []=c}:=⟨_,by conv=>lhs;reduce⟩
def aCn:CC:=(fun (c:CC) (_:(aTv.1.aV [1,1,0,1,0,0])=c)=>c) _ (by conv=>lhs;reduce)
def aCo:CC:=(fun (c:CC->CC) (_:(fun a0=>(aTv.1.aV [1,1,0,1]).aU [0,0] a0)=c)=>c) _ (by conv=>lhs;reduce) aCn
def aOF:CC:=(fun (c:CC->CC) (_:(fun a0=>(aTv.1).aU [1,1,0,1] a0)=c)=>c) _ (by conv=>lhs;reduce) aCo
theorem aVR:aZ Tryz.prog 235 aOF [4] 35:=aZ.mk (by kernel_rfl) ⟨Tryz.f235,_,Tryz.func235,rfl,by kernel_rfl,by kernel_rfl,by kernel_rfl,by kernel_rfl,by kernel_rfl⟩
def a0h:{c:CC // aJ Tryz.prog 236=c}:=⟨_,by conv=>lhs;reduce⟩
def aTu:{c:CC // bA Tryz.prog 236 {} a0h.1 []=c}:=⟨_,by conv=>lhs;reduce⟩
def aCl:CC:=(fun (c:CC) (_:(aTu.1.aV [1,0,1,0,0])=c)=>c) _ (by conv=>lhs;reduce)
def aCm:CC:=(fun (c:CC->CC) (_:(fun a0=>(aTu.1.aV [1,0,1]).aU [0,0] a0)=c)=>c) _ (by conv=>lhs;reduce) aCl
def aOE:CC:=(fun (c:CC->CC) (_:(fun a0=>(aTu.1).aU [1,0,1] a0)=c)=>c) _ (by conv=>lhs;reduce) aCm
theorem aVQ:aZ Tryz.prog 236 aOE [6] 33:=aZ.mk (by kernel_rfl) ⟨Tryz.f236,_,Tryz.func236,rfl,by kernel_rfl,by kernel_rfl,by kernel_rfl,by kernel_rfl,by kernel_rfl⟩
def a0g:{c:CC // aJ Tryz.prog 237=c}:=⟨_,by conv=>lhs;reduce⟩
def aTt:{c:CC // bA Tryz.prog 237 {} a0g.1 []=c}:=⟨_,by conv=>lhs;reduce⟩
def aCj:CC:=(fun (c:CC) (_:(aTt.1.aV [1,1,0,0,0])=c)=>c) _ (by conv=>lhs;reduce)
def aCk:CC:=(fun (c:CC->CC) (_:(fun a0=>(aTt.1.aV [1,1,0]).aU [0,0] a0)=c)=>c) _ (by conv=>lhs;reduce) aCj
def aOD:CC:=(fun (c:CC->CC) (_:(fun a0=>(aTt.1).aU [1,1,0] a0)=c)=>c) _ (by conv=>lhs;reduce) aCk
theorem aRD:aX Tryz.prog 237 aOD [.ce 4 41 10 true] 43:=aX.mk (by kernel_rfl) ⟨Tryz.f237,_,Tryz.func237,rfl,by kernel_rfl,by kernel_rfl,by kernel_rfl,by kernel_rfl,by kernel_rfl⟩ ⟨by kernel_rfl,trivial⟩
def vS:Ask:=⟨0,0,0,0,0,0,0,0⟩
def aMZ (p:Int) (l:List Ask):Option Ask:=l.find? fun a=>a.prio==p
theorem aMJ (l:List Ask) (hl:l.length<2^62) (p:Int):aT Tryz.prog 211 [.sl false 8 (l.map ASK),.int .i64 p] (dT ASK vS (aMZ p l)):=by
 unfold aT
 refine aO aRN (by simp) ?_
 unfold aO0 dT aMZ
 simp -implicitDefEqProofs(disch:=first|decide|omega)only[↓aA,aC,aB,simprocAttr]
 unfold aCM
 simp -implicitDefEqProofs(disch:=first|decide|omega)only[↓aA,aC,aB,simprocAttr]
 refine aF (σ:=Nat) (fun k=>⟨[(0,.sl false 8 (l.map ASK)),(1,.int .i64 p),(4,.ref 0 0 0),(6,.int .i64 (k:Int))],[.box (fC vS)]⟩) (fun k=>k<=l.length/\l.find? (fun a=>a.prio==p)=(l.drop k).find? (fun a=>a.prio==p)) (fun k=>l.length-k) 0 (.inl rfl) ⟨by omega,by simp⟩ ?_
 rintro k ⟨hk,hf⟩
 unfold aCL
 by_cases hki:k<l.length
 · have hg:l.getD k default=l[k]:=by simp [hki]
   rw [List.drop_eq_getElem_cons hki,List.find?_cons] at hf
   by_cases hp:l[k].prio=p
   · rw [beq_iff_eq.2 hp] at hf
     simp -implicitDefEqProofs(disch:=first|decide|omega)only[↓aA,aC,aB,simprocAttr,bB,bF,hg,hf,hp]
     exact ⟨by omega,by omega,by omega,by omega,rfl⟩
   · rw [beq_eq_false_iff_ne.2 hp] at hf
     simp -implicitDefEqProofs(disch:=first|decide|omega)only[↓aA,aC,aB,simprocAttr,bB,bF,hg,hp]
     exact ⟨by omega,by omega,k+1,.inl rfl,⟨by omega,hf⟩,by omega⟩
 · have:k=l.length:=by omega
   subst this
   rw [List.drop_length] at hf
   simp -implicitDefEqProofs(disch:=first|decide|omega)only[↓aA,aC,aB,simprocAttr,bB,bF,hf]
   repeat first|exact rfl|refine And.intro (by rfl) ?_
theorem aFj {p:Int} {l:List Ask} {k:Nat} (h:k<l.length):(fF p (l.take k)++l.drop k).set k (yE p l[k])=fF p (l.take (k+1))++l.drop (k+1):=by
 have h1:(fF p (l.take k)).length=k:=by unfold fF;simp;omega
 rw [List.drop_eq_getElem_cons h,List.set_append,if_neg (by omega),h1,Nat.sub_self,List.set_cons_zero]
 unfold fF
 rw [List.take_succ_eq_append_getElem h,List.map_append,List.append_assoc]
 rfl
theorem aFl {p:Int} {l:List Ask} {k:Nat} (h:k<l.length):(fF p (l.take k)++l.drop k).getD k default=l[k]:=by
 have h1:(fF p (l.take k)).length=k:=by unfold fF;simp;omega
 rw [List.getD_eq_getElem?_getD,List.getElem?_append_right (by omega),h1,Nat.sub_self]
 simp [h]
theorem aFk {p:Int} {l:List Ask} {k:Nat}:(fF p (l.take k)++l.drop k).length=l.length:=by
 unfold fF
 simp
 omega
theorem aIf (l:List Ask) (hl:l.length<2^38) (p:Int) (hm:∀ x∈l,0<=x.missed/\x.missed<=100):aT Tryz.prog 235 [.sl false 8 (l.map ASK),.int .i64 p] (.sl false 8 ((fF p l).map ASK)):=by
 unfold aT
 refine aK aVR (by simp) ?_
 unfold aOF
 simp -implicitDefEqProofs(disch:=first|decide|omega)only[↓aA,aC,aB,simprocAttr]
 unfold aCo
 simp -implicitDefEqProofs(disch:=first|decide|omega)only[↓aA,aC,aB,simprocAttr]
 repeat refine And.intro (by omega) ?_
 refine aF (σ:=Nat) (fun k=>⟨[(1,.int .i64 p),(5,.own 0 8 0 l.length),(6,.int .i64 (k:Int))],[.arr 8 ((fF p (l.take k)++l.drop k).map ASK)]⟩) (fun k=>k<=l.length) (fun k=>l.length-k) 0 ?_ (by omega) ?_
 · have e:fF p (l.take 0)++l.drop 0=l:=by simp [fF]
   rw [e]
   (refine Sub.of0 [some 1] rfl ?_ rfl ?_<;>repeat' first|trivial|rfl|exact .inl rfl|exact .inr ⟨rfl,_,_,rfl⟩|(simp;done)|(simp;omega)|refine And.intro ?_ ?_)
 rintro k hk
 unfold aCn
 by_cases hki:k<l.length
 · have hg:=aFl (p:=p) hki
   have hs:=aFj (p:=p) hki
   have hx:=hm _ (List.getElem_mem hki)
   have hln:=aFk (p:=p) (l:=l) (k:=k)
   generalize hL:fF p (l.take k)++l.drop k=L at hg hs hln ⊢
   by_cases hp:l[k].prio=p
   · have e:yE p l[k]={ l[k] with missed:=min (l[k].missed+1) 100 }:=if_pos hp
     rw [e] at hs
     simp -implicitDefEqProofs(disch:=first|decide|omega)only[↓aA,aC,aB,simprocAttr,bB,bF,hg]
     repeat refine And.intro (by omega) ?_
     refine ⟨k+1,?_,by omega,by omega⟩
     rw [<- hs]
     exact .inl rfl
   · have e:yE p l[k]=l[k]:=if_neg hp
     rw [e] at hs
     have hs2:L.set k l[k]=L:=by
      rw [<- hg,List.getD_eq_getElem?_getD,List.getElem?_eq_getElem (by omega)]
      simp
     rw [hs2] at hs
     simp -implicitDefEqProofs(disch:=first|decide|omega)only[↓aA,aC,aB,simprocAttr,bB,bF,hg,hp]
     repeat refine And.intro (by omega) ?_
     refine ⟨k+1,?_,by omega,by omega⟩
     rw [<- hs]
     exact .inl rfl
 · have:k=l.length:=by omega
   subst this
   simp -implicitDefEqProofs(disch:=first|decide|omega)only[↓aA,aC,aB,simprocAttr,bB,List.take_length]
   have e:(fF p l).length=l.length:=by simp [fF]
   rw [if_pos (by omega),List.drop_length,List.append_nil,List.take_of_length_le (by omega)]
theorem aIc (l:List Ask) (hl:l.length<2^38) (p:Int) (hm:∀ x∈l,0<=x.count/\x.count<=1000):aT Tryz.prog 233 [.sl false 8 (l.map ASK),.int .i64 p] (.tup [.sl false 8 ((fQ p l).map ASK),.bool (l.any fun a=>a.prio==p)]):=by
 unfold aT
 refine aK aVT (by simp) ?_
 unfold aOH
 simp -implicitDefEqProofs(disch:=first|decide|omega)only[↓aA,aC,aB,simprocAttr]
 unfold aCs
 simp -implicitDefEqProofs(disch:=first|decide|omega)only[↓aA,aC,aB,simprocAttr]
 refine aF (σ:=Nat) (fun k=>⟨[(0,.sl false 8 (l.map ASK)),(1,.int .i64 p),(6,.own 0 8 0 (fQ p (l.take k)).length),(7,.bool ((l.take k).any fun a=>a.prio==p)),(8,.int .i64 (k:Int))],[.arr 8 ((fQ p (l.take k)).map ASK)]⟩) (fun k=>k<=l.length) (fun k=>l.length-k) 0 ?_ (by omega) ?_
 · (refine Sub.of0 [none] rfl ?_ rfl ?_<;>repeat' first|trivial|rfl|exact .inl rfl|exact .inr ⟨rfl,_,_,rfl⟩|(simp;done)|(simp;omega)|refine And.intro ?_ ?_)
 rintro k hk
 unfold aCr
 have hfl:(fQ p (l.take k)).length<=l.length:=Nat.le_trans (List.length_filterMap_le _ _) (by simp;omega)
 by_cases hki:k<l.length
 · have hg:l.getD k default=l[k]:=by simp [hki]
   have hx:=hm _ (List.getElem_mem hki)
   have e2:l.take (k+1)=l.take k++[l[k]]:=List.take_succ_eq_append_getElem hki
   have e3:(l.take (k+1)).any (fun a=>a.prio==p)=((l.take k).any (fun a=>a.prio==p)||(l[k].prio==p)):=by rw [e2,List.any_append,List.any_cons,List.any_nil,Bool.or_false]
   have e4:fQ p (l.take (k+1))=fQ p (l.take k)++fQ p [l[k]]:=by rw [e2];unfold fQ;rw [List.filterMap_append]
   generalize hout:fQ p (l.take k)=out at e4 hfl ⊢
   by_cases hp:l[k].prio=p
   · rw [beq_iff_eq.2 hp,Bool.or_true] at e3
     by_cases hc:l[k].count-1<=0
     · have e5:fQ p [l[k]]=[]:=by simp [fQ,hp,hc]
       rw [e5,List.append_nil] at e4
       simp -implicitDefEqProofs(disch:=first|decide|omega)only[↓aA,aC,aB,simprocAttr,bB,bF,hg]
       repeat refine And.intro (by omega) ?_
       refine ⟨k+1,?_,by omega,by omega⟩
       simp only [e3,e4]
       (refine Sub.of0 [some 0] rfl ?_ rfl ?_<;>repeat' first|trivial|rfl|exact .inl rfl|exact .inr ⟨rfl,_,_,rfl⟩|(simp;done)|(simp;omega)|refine And.intro ?_ ?_)
     · have e5:fQ p [l[k]]=[{ l[k] with count:=l[k].count-1,missed:=0 }]:=by simp [fQ,hp,hc]
       rw [e5] at e4
       simp -implicitDefEqProofs(disch:=first|decide|omega)only[↓aA,aC,aB,simprocAttr,bB,bF,hg]
       repeat refine And.intro (by omega) ?_
       refine ⟨k+1,?_,by omega,by omega⟩
       simp only [e3,e4,List.map_append,List.map_cons,List.map_nil,List.length_append,List.length_cons,List.length_nil]
       (refine Sub.of0 [some 3] rfl ?_ rfl ?_<;>repeat' first|trivial|rfl|exact .inl rfl|exact .inr ⟨rfl,_,_,rfl⟩|(simp;done)|(simp;omega)|refine And.intro ?_ ?_)
   · rw [beq_eq_false_iff_ne.2 hp,Bool.or_false] at e3
     have e5:fQ p [l[k]]=[l[k]]:=by simp [fQ,hp]
     rw [e5] at e4
     simp -implicitDefEqProofs(disch:=first|decide|omega)only[↓aA,aC,aB,simprocAttr,bB,bF,hg,hp]
     repeat refine And.intro (by omega) ?_
     refine ⟨k+1,?_,by omega,by omega⟩
     simp only [e3,e4,List.map_append,List.map_cons,List.map_nil,List.length_append,List.length_cons,List.length_nil]
     (refine Sub.of0 [some 3] rfl ?_ rfl ?_<;>repeat' first|trivial|rfl|exact .inl rfl|exact .inr ⟨rfl,_,_,rfl⟩|(simp;done)|(simp;omega)|refine And.intro ?_ ?_)
 · have:k=l.length:=by omega
   subst this
   simp -implicitDefEqProofs(disch:=first|decide|omega)only[↓aA,aC,aB,simprocAttr,bB,List.take_length]
end Go.Proofs.YtakemdamegfcfaaGreat
