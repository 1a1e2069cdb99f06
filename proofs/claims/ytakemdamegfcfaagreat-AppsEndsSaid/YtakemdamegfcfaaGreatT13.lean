/- A part of a proof: what functions of the program compute. No condition. -/
import Derived.Test.YtakemdamegfcfaaGreatT12
import Derived.Test.YtakemdamegfcfaaGreatProg
import Derived.KernelRfl
import Derived.Test.YtakemdamegfcfaaGreatT6
import Derived.Test.YtakemdamegfcfaaGreatT10
set_option linter.unusedSimpArgs false
set_option linter.unusedVariables false
set_option maxHeartbeats 16000000
set_option maxRecDepth 100000
namespace Go.Proofs.YtakemdamegfcfaaGreat
open Go Go.Ab
def vX (a:App):Prop:=a.id<0∨a.id>9999∨a.user<0∨a.user>99∨a.prio<0∨a.prio>9∨¬ (1<=a.mem/\a.mem<=2^30)∨¬ (1<=a.cores/\a.cores<=2^30)
instance (a:App):Decidable (vX a):=by unfold vX;exact inferInstance
def lU (s:Sta):Sta:=if 16<=s.apps.length then { s with apps:=cG s.apps } else s
def pJ (s:Sta) (a:App):Sta×Int :=
 if vX a then (s,1) else if (dP a.id s.apps).isSome then (s,7) else if 16<=(s.apps.filter live).length then (s,4)
 else if iM s.qs a.queue then (iJ (lU s) (hY a s.now),0) else (s,19)
set_option maxHeartbeats 1000000 in
theorem aEY (s:Sta) (hl:s.apps.length<2^37) (hq:QZ s.qs) (a:App):aT Tryz.prog 37 [.agg (stC s),APP a] (sH (pJ s a)):=by
 have h1:=gV s (by omega) a.id
 have h6:=sQ s.labels s.qs hq a.queue
 have h7:=y4 a
 have h8:=aFG s (by omega)
 have hm:=zI a.mem
 have hc:=zI a.cores
 unfold aT
 refine aO aVr (by simp) ?_
 unfold aXH sH
 unfold stC at h1 h8
 unfold dT at h1
 unfold bN at h6
 by_cases c1:a.id<0
 · have e:pJ s a=(s,1):=if_pos (.inl c1)
   rw [e]
   simp -implicitDefEqProofs(disch:=first|decide|omega)only[↓aA,aC,aB,simprocAttr,bB,a9,c1]
 by_cases c2:a.id>9999
 · have e:pJ s a=(s,1):=if_pos (.inr (.inl c2))
   rw [e]
   simp -implicitDefEqProofs(disch:=first|decide|omega)only[↓aA,aC,aB,simprocAttr,bB,a9,c1,c2]
 by_cases c3:a.user<0
 · have e:pJ s a=(s,1):=if_pos (.inr (.inr (.inl c3)))
   rw [e]
   simp -implicitDefEqProofs(disch:=first|decide|omega)only[↓aA,aC,aB,simprocAttr,bB,a9,c1,c2,c3]
 by_cases c4:a.user>99
 · have e:pJ s a=(s,1):=if_pos (.inr (.inr (.inr (.inl c4))))
   rw [e]
   simp -implicitDefEqProofs(disch:=first|decide|omega)only[↓aA,aC,aB,simprocAttr,bB,a9,c1,c2,c3,c4]
 by_cases c5:a.prio<0
 · have e:pJ s a=(s,1):=if_pos (.inr (.inr (.inr (.inr (.inl c5)))))
   rw [e]
   simp -implicitDefEqProofs(disch:=first|decide|omega)only[↓aA,aC,aB,simprocAttr,bB,a9,c1,c2,c3,c4,c5]
 by_cases c6:a.prio>9
 · have e:pJ s a=(s,1):=if_pos (.inr (.inr (.inr (.inr (.inr (.inl c6))))))
   rw [e]
   simp -implicitDefEqProofs(disch:=first|decide|omega)only[↓aA,aC,aB,simprocAttr,bB,a9,c1,c2,c3,c4,c5,c6]
 refine Xh (And.intro c1 (And.intro c2 (And.intro c3 (And.intro c4 (And.intro c5 c6))))) ?_
 by_cases c7:1<=a.mem/\a.mem<=2^30
 case neg =>
  have e:pJ s a=(s,1):=if_pos (.inr (.inr (.inr (.inr (.inr (.inr (.inl c7)))))))
  rw [e]
  rw [decide_eq_false c7] at hm
  refine aE (aI.of (aM:=false) (hm) (.refl rfl) rfl (by simp)) ?_
  simp -implicitDefEqProofs(disch:=first|decide|omega)only[↓aA,aC,aB,simprocAttr,bB,a9]
 rw [decide_eq_true c7] at hm
 refine aE (aI.of (aM:=false) (hm) (.refl rfl) rfl (by simp)) ?_
 refine Yh ?_
 by_cases c8:1<=a.cores/\a.cores<=2^30
 case neg =>
  have e:pJ s a=(s,1):=if_pos (.inr (.inr (.inr (.inr (.inr (.inr (.inr c8)))))))
  rw [e]
  rw [decide_eq_false c8] at hc
  refine aE (aI.of (aM:=false) (hc) (.refl rfl) rfl (by simp)) ?_
  simp -implicitDefEqProofs(disch:=first|decide|omega)only[↓aA,aC,aB,simprocAttr,bB,a9]
 rw [decide_eq_true c8] at hc
 refine aE (aI.of (aM:=false) (hc) (.refl rfl) rfl (by simp)) ?_
 refine Yh ?_
 refine aE (aI.of (aM:=false) (h1) (.refl rfl) rfl (by simp)) ?_
 have e:pJ s a=if (dP a.id s.apps).isSome then (s,7) else if 16<=(s.apps.filter live).length then (s,4)
  else if iM s.qs a.queue then (iJ (lU s) (hY a s.now),0) else (s,19):=if_neg (by rintro (h|h|h|h|h|h|h|h)<;>first|omega|exact h c7|exact h c8)
 cases hf:(dP a.id s.apps).isSome
 case true =>
  rw [hf,if_pos rfl] at e
  rw [e]
  simp -implicitDefEqProofs(disch:=first|decide|omega)only[↓aA,aC,aB,simprocAttr,bB,a9]
 rw [hf,if_neg (by simp)] at e
 have hfn:dP a.id s.apps=none:=by simpa using hf
 rw [hfn,Option.getD_none]
 refine Yh ?_
 unfold aJI
 refine Ya ?_
 refine aF (σ:=Nat) (fun k=>⟨[(2,.ref 0 0 0),(3,.ref 1 0 0),(4,.ref 2 0 0),(8,.int .i64 (((s.apps.take k).filter live).length:Int)),(9,.int .i64 (k:Int))],[.box (stC s),.box (bI a),.box [.aD,.aD,.aD,.aD,.aD,.aD,.aD,.int .i64 0,.int .i64 0,.int .i64 0]]⟩) (fun k=>k<=s.apps.length) (fun k=>s.apps.length-k) 0 ?_ (by omega) ?_
 · exact Sub.ofS [some 0,some 1,some 2]
 rintro k hk
 unfold aJH
 have hfl:=dA (p:=live) (l:=s.apps) (k:=k)
 by_cases hki:k<s.apps.length
 · have hg:s.apps.getD k default=s.apps[k]:=by simp [hki]
   have e2:=cH (p:=live) hki
   have h42:=fX s.apps[k]
   generalize hout:(s.apps.take k).filter live=out at e2 hfl ⊢
   cases hv:live s.apps[k]
   · rw [hv] at e2 h42
     rw [if_neg (by simp),List.append_nil] at e2
     simp -implicitDefEqProofs(disch:=first|decide|omega)only[↓aA,aC,aB,simprocAttr,bB,a9,hg]
     repeat refine And.intro (by omega) ?_
     refine aE (aI.of (aM:=false) (h42) (.refl rfl) rfl (by simp)) ?_
     refine Ya ?_
     refine ⟨k+1,?_,by omega,by omega⟩
     simp only [e2]
     exact .inl rfl
   · rw [hv] at e2 h42
     rw [if_pos rfl] at e2
     simp -implicitDefEqProofs(disch:=first|decide|omega)only[↓aA,aC,aB,simprocAttr,bB,a9,hg]
     repeat refine And.intro (by omega) ?_
     refine aE (aI.of (aM:=false) (h42) (.refl rfl) rfl (by simp)) ?_
     simp -implicitDefEqProofs(disch:=first|decide|omega)only[↓aA,aC,aB,simprocAttr]
     repeat refine And.intro (by omega) ?_
     refine ⟨k+1,?_,by omega,by omega⟩
     simp only [e2,List.length_append,List.length_cons,List.length_nil]
     exact .inl rfl
 · have:k=s.apps.length:=by omega
   subst this
   rw [List.take_length] at hfl ⊢
   by_cases c9:16<=(s.apps.filter live).length
   · rw [if_pos c9] at e
     rw [e]
     simp -implicitDefEqProofs(disch:=first|decide|omega)only[↓aA,aC,aB,simprocAttr,bB,a9,c9]
   · rw [if_neg c9] at e
     cases hv:iM s.qs a.queue
     · rw [hv,if_neg (by simp)] at e
       rw [hv] at h6
       rw [e]
       refine Xh c9 ?_
       refine aE (aI.of (aM:=false) (h6) (.refl rfl) rfl (by simp)) ?_
       simp -implicitDefEqProofs(disch:=first|decide|omega)only[↓aA,aC,aB,simprocAttr,bB,a9]
     · rw [hv,if_pos rfl] at e
       rw [hv] at h6
       rw [e]
       refine Xh c9 ?_
       refine aE (aI.of (aM:=false) (h6) (.refl rfl) rfl (by simp)) ?_
       by_cases c10:16<=s.apps.length
       · have er:lU s={ s with apps:=cG s.apps }:=if_pos c10
         have c44:=gB { s with apps:=cG s.apps } (by have:=qW s.apps;simp only;omega) (hY a s.now)
         rw [er]
         refine Xh c10 ?_
         refine aE (aI.of (aM:=false) (h8) (.refl rfl) rfl (by simp)) ?_
         refine Yh ?_
         refine bP (h7) rfl rfl ?_
         refine Yh ?_
         refine aG7 c44 (fun H=>.cons (Vw.refl rfl) (.cons (Vw.wk (.inl (.inr ⟨_,_,rfl,rfl,by simp [WkL,Wk1,bI,hY]⟩)) rfl) .nil)) rfl ?_
         simp -implicitDefEqProofs(disch:=first|decide|omega)only[↓aA,aC,aB,simprocAttr,bB]
       · have er:lU s=s:=if_neg c10
         have c44:=gB s (by omega) (hY a s.now)
         rw [er]
         refine Xh c10 ?_
         refine bP (h7) rfl rfl ?_
         refine Yh ?_
         refine aG7 c44 (fun H=>.cons (Vw.refl rfl) (.cons (Vw.wk (.inl (.inr ⟨_,_,rfl,rfl,by simp [WkL,Wk1,bI,hY]⟩)) rfl) .nil)) rfl ?_
         simp -implicitDefEqProofs(disch:=first|decide|omega)only[↓aA,aC,aB,simprocAttr,bB]
def a1e:{c:CC // aJ Tryz.prog 153=c}:=⟨_,by conv=>lhs;reduce⟩
def aT0:{c:CC // bA Tryz.prog 153 {} a1e.1 []=c}:=⟨_,by conv=>lhs;reduce⟩
def aDT:CC:=(fun (c:CC) (_:(aT0.1.aV [1,1,0,1,0,0])=c)=>c) _ (by conv=>lhs;reduce)
def aDU:CC:=(fun (c:CC->CC) (_:(fun a0=>(aT0.1.aV [1,1,0,1]).aU [0,0] a0)=c)=>c) _ (by conv=>lhs;reduce) aDT
def aPA:CC:=(fun (c:CC->CC) (_:(fun a0=>(aT0.1).aU [1,1,0,1] a0)=c)=>c) _ (by conv=>lhs;reduce) aDU
theorem aR1:aX Tryz.prog 153 aPA [.ce 4 41 10 true] 33:=aX.of Tryz.f153 Tryz.func153 rfl ⟨by kernel_rfl,trivial⟩
def a01:{c:CC // aJ Tryz.prog 178=c}:=⟨_,by conv=>lhs;reduce⟩
def aZH:{c:CC // bA Tryz.prog 178 {} a01.1 []=c}:=⟨_,by conv=>lhs;reduce⟩
def aPn:CC:=(fun (c:CC) (_:(aZH.1)=c)=>c) _ (by conv=>lhs;reduce)
theorem aWg:aZ Tryz.prog 178 aPn [4] 76:=aZ.of Tryz.f178 Tryz.func178 rfl
def a00:{c:CC // aJ Tryz.prog 179=c}:=⟨_,by conv=>lhs;reduce⟩
def aTQ:{c:CC // bA Tryz.prog 179 {} a00.1 []=c}:=⟨_,by conv=>lhs;reduce⟩
def aDv:CC:=(fun (c:CC) (_:(aTQ.1.aV [1,1,1,1,0,1,0,0])=c)=>c) _ (by conv=>lhs;reduce)
def aDw:CC:=(fun (c:CC->CC) (_:(fun a0=>(aTQ.1.aV [1,1,1,1,0,1]).aU [0,0] a0)=c)=>c) _ (by conv=>lhs;reduce) aDv
def aPm:CC:=(fun (c:CC->CC) (_:(fun a0=>(aTQ.1).aU [1,1,1,1,0,1] a0)=c)=>c) _ (by conv=>lhs;reduce) aDw
theorem aWf:aZ Tryz.prog 179 aPm [4,5] 60:=aZ.of Tryz.f179 Tryz.func179 rfl
def a0S:{c:CC // aJ Tryz.prog 193=c}:=⟨_,by conv=>lhs;reduce⟩
def aTL:{c:CC // bA Tryz.prog 193 {} a0S.1 []=c}:=⟨_,by conv=>lhs;reduce⟩
def aDb:CC:=(fun (c:CC) (_:(aTL.1.aV [1,0,1,0,0])=c)=>c) _ (by conv=>lhs;reduce)
def aDc:CC:=(fun (c:CC->CC) (_:(fun a0=>(aTL.1.aV [1,0,1]).aU [0,0] a0)=c)=>c) _ (by conv=>lhs;reduce) aDb
def aPe:CC:=(fun (c:CC->CC) (_:(fun a0=>(aTL.1).aU [1,0,1] a0)=c)=>c) _ (by conv=>lhs;reduce) aDc
theorem aRT:aX Tryz.prog 193 aPe [.ce 4 86 3 true,.tm 5] 28:=aX.of Tryz.f193 Tryz.func193 rfl ⟨by kernel_rfl,trivial⟩
def a0P:{c:CC // aJ Tryz.prog 196=c}:=⟨_,by conv=>lhs;reduce⟩
def aZF:{c:CC // bA Tryz.prog 196 {} a0P.1 []=c}:=⟨_,by conv=>lhs;reduce⟩
def aPb:CC:=(fun (c:CC) (_:(aZF.1)=c)=>c) _ (by conv=>lhs;reduce)
theorem aWa:aZ Tryz.prog 196 aPb [2] 9:=aZ.of Tryz.f196 Tryz.func196 rfl
def a0G:{c:CC // aJ Tryz.prog 205=c}:=⟨_,by conv=>lhs;reduce⟩
def aZC:{c:CC // bA Tryz.prog 205 {} a0G.1 []=c}:=⟨_,by conv=>lhs;reduce⟩
def aO2:CC:=(fun (c:CC) (_:(aZC.1)=c)=>c) _ (by conv=>lhs;reduce)
theorem aV3:aZ Tryz.prog 205 aO2 [4] 17:=aZ.of Tryz.f205 Tryz.func205 rfl
def a0E:{c:CC // aJ Tryz.prog 211=c}:=⟨_,by conv=>lhs;reduce⟩
def aTE:{c:CC // bA Tryz.prog 211 {} a0E.1 []=c}:=⟨_,by conv=>lhs;reduce⟩
def aCL:CC:=(fun (c:CC) (_:(aTE.1.aV [1,0,1,0,0])=c)=>c) _ (by conv=>lhs;reduce)
def aCM:CC:=(fun (c:CC->CC) (_:(fun a0=>(aTE.1.aV [1,0,1]).aU [0,0] a0)=c)=>c) _ (by conv=>lhs;reduce) aCL
def aO0:CC:=(fun (c:CC->CC) (_:(fun a0=>(aTE.1).aU [1,0,1] a0)=c)=>c) _ (by conv=>lhs;reduce) aCM
theorem aRN:aX Tryz.prog 211 aO0 [.ce 4 89 8 true,.tm 5] 25:=aX.of Tryz.f211 Tryz.func211 rfl ⟨by kernel_rfl,trivial⟩
def a0z:{c:CC // aJ Tryz.prog 216=c}:=⟨_,by conv=>lhs;reduce⟩
def aNX:{c:CC // bA Tryz.prog 216 { ty:=[(true,11)] } a0z.1 [([1,1,1,1,0,1,0],(.p [0,2] (.f [1,3,4,5,6,7,8,9]) (.p [3,4] (.f [1,5,6,7,8,9]) (.f [5,1,6,7,8,9])))),([1,1,1,1,0,1,1],(.p [1,4,2] (.p [0] (.f [3,5,6,7,8,9]) (.p [5] (.f [3,6,7,8,9]) (.f [6,3,7,8,9]))) (.p [5] (.p [0] (.f [3,6,7,8,9]) (.f [6,3,7,8,9])) (.f [6,0,3,7,8,9])))),([1,1,1,1,1,1,1,1,1,1,0],(.p [0,1] (.p [2] (.f [3,4,5]) (.f [4,3,5])) (.f [3,2,4,5])))]=c}:=⟨_,by conv=>lhs;reduce⟩
def wS:CC:=(fun (c:CC) (_:(aNX.1.aV [1,1,1,1,1,1,0,0,0])=c)=>c) _ (by conv=>lhs;reduce)
def wT:CC:=(fun (c:CC->CC) (_:(fun a0=>(aNX.1.aV [1,1,1,1,1,1,0]).aU [0,0] a0)=c)=>c) _ (by conv=>lhs;reduce) wS
def pB:CC:=(fun (c:CC->CC) (_:(fun a0=>(aNX.1.aV [1,1,1,1,1]).aU [1,0] a0)=c)=>c) _ (by conv=>lhs;reduce) wT
def aOV:CC:=(fun (c:CC->CC) (_:(fun a0=>(aNX.1).aU [1,1,1,1,1] a0)=c)=>c) _ (by conv=>lhs;reduce) pB
theorem aRM:aX Tryz.prog 216 aOV [.ce 8 41 10 true,.ce 9 82 9 true] 102:=aX.of Tryz.f216 Tryz.func216 rfl ⟨by kernel_rfl,by kernel_rfl,trivial⟩
def a0k:{c:CC // aJ Tryz.prog 233=c}:=⟨_,by conv=>lhs;reduce⟩
def aTx:{c:CC // bA Tryz.prog 233 {} a0k.1 []=c}:=⟨_,by conv=>lhs;reduce⟩
def aCr:CC:=(fun (c:CC) (_:(aTx.1.aV [1,1,1,0,1,0,0])=c)=>c) _ (by conv=>lhs;reduce)
def aCs:CC:=(fun (c:CC->CC) (_:(fun a0=>(aTx.1.aV [1,1,1,0,1]).aU [0,0] a0)=c)=>c) _ (by conv=>lhs;reduce) aCr
def aOH:CC:=(fun (c:CC->CC) (_:(fun a0=>(aTx.1).aU [1,1,1,0,1] a0)=c)=>c) _ (by conv=>lhs;reduce) aCs
theorem aVT:aZ Tryz.prog 233 aOH [4,5] 38:=aZ.of Tryz.f233 Tryz.func233 rfl
def a0i:{c:CC // aJ Tryz.prog 235=c}:=⟨_,by conv=>lhs;reduce⟩
def aTv:{c:CC // bA Tryz.prog 235 {} a0i.1 []=c}:=⟨_,by conv=>lhs;reduce⟩
def aCn:CC:=(fun (c:CC) (_:(aTv.1.aV [1,1,0,1,0,0])=c)=>c) _ (by conv=>lhs;reduce)
def aCo:CC:=(fun (c:CC->CC) (_:(fun a0=>(aTv.1.aV [1,1,0,1]).aU [0,0] a0)=c)=>c) _ (by conv=>lhs;reduce) aCn
def aOF:CC:=(fun (c:CC->CC) (_:(fun a0=>(aTv.1).aU [1,1,0,1] a0)=c)=>c) _ (by conv=>lhs;reduce) aCo
theorem aVR:aZ Tryz.prog 235 aOF [4] 35:=aZ.of Tryz.f235 Tryz.func235 rfl
def a0h:{c:CC // aJ Tryz.prog 236=c}:=⟨_,by conv=>lhs;reduce⟩
def aTu:{c:CC // bA Tryz.prog 236 {} a0h.1 []=c}:=⟨_,by conv=>lhs;reduce⟩
def aCl:CC:=(fun (c:CC) (_:(aTu.1.aV [1,0,1,0,0])=c)=>c) _ (by conv=>lhs;reduce)
def aCm:CC:=(fun (c:CC->CC) (_:(fun a0=>(aTu.1.aV [1,0,1]).aU [0,0] a0)=c)=>c) _ (by conv=>lhs;reduce) aCl
def aOE:CC:=(fun (c:CC->CC) (_:(fun a0=>(aTu.1).aU [1,0,1] a0)=c)=>c) _ (by conv=>lhs;reduce) aCm
theorem aVQ:aZ Tryz.prog 236 aOE [6] 33:=aZ.of Tryz.f236 Tryz.func236 rfl
def a0g:{c:CC // aJ Tryz.prog 237=c}:=⟨_,by conv=>lhs;reduce⟩
def aTt:{c:CC // bA Tryz.prog 237 {} a0g.1 []=c}:=⟨_,by conv=>lhs;reduce⟩
def aCj:CC:=(fun (c:CC) (_:(aTt.1.aV [1,1,0,0,0])=c)=>c) _ (by conv=>lhs;reduce)
def aCk:CC:=(fun (c:CC->CC) (_:(fun a0=>(aTt.1.aV [1,1,0]).aU [0,0] a0)=c)=>c) _ (by conv=>lhs;reduce) aCj
def aOD:CC:=(fun (c:CC->CC) (_:(fun a0=>(aTt.1).aU [1,1,0] a0)=c)=>c) _ (by conv=>lhs;reduce) aCk
theorem aRD:aX Tryz.prog 237 aOD [.ce 4 41 10 true] 43:=aX.of Tryz.f237 Tryz.func237 rfl ⟨by kernel_rfl,trivial⟩
def vS:Ask:=⟨0,0,0,0,0,0,0,0⟩
def aMZ (p:Int) (l:List Ask):Option Ask:=l.find? fun a=>a.prio==p
theorem aMJ (l:List Ask) (hl:l.length<2^62) (p:Int):aT Tryz.prog 211 [.sl false 8 (l.map ASK),.int .i64 p] (dT ASK vS (aMZ p l)):=by
 unfold aT
 refine aO aRN (by simp) ?_
 unfold aO0 dT aMZ
 refine Ya ?_
 unfold aCM
 refine Ya ?_
 refine aF (σ:=Nat) (fun k=>⟨[(0,.sl false 8 (l.map ASK)),(1,.int .i64 p),(4,.ref 0 0 0),(6,.int .i64 (k:Int))],[.box (fC vS)]⟩) (fun k=>k<=l.length/\l.find? (fun a=>a.prio==p)=(l.drop k).find? (fun a=>a.prio==p)) (fun k=>l.length-k) 0 (.inl rfl) ⟨by omega,by simp⟩ ?_
 rintro k ⟨hk,hf⟩
 unfold aCL
 by_cases hki:k<l.length
 · have hg:l.getD k default=l[k]:=by simp [hki]
   rw [List.drop_eq_getElem_cons hki,List.find?_cons] at hf
   by_cases hp:l[k].prio=p
   · rw [beq_iff_eq.2 hp] at hf
     refine Xm (And.intro hg (And.intro hf hp)) ?_
     exact ⟨by omega,by omega,by omega,by omega,rfl⟩
   · rw [beq_eq_false_iff_ne.2 hp] at hf
     refine Xm (And.intro hg hp) ?_
     exact ⟨by omega,by omega,k+1,.inl rfl,⟨by omega,hf⟩,by omega⟩
 · have:k=l.length:=by omega
   subst this
   rw [List.drop_length] at hf
   simp -implicitDefEqProofs(disch:=first|decide|omega)only[↓aA,aC,aB,simprocAttr,bB,bF,hf]
   repeat first|exact rfl|refine And.intro (by rfl) ?_
theorem aFj {p:Int} {l:List Ask} {k:Nat} (h:k<l.length):(fF p (l.take k)++l.drop k).set k (yE p l[k])=fF p (l.take (k+1))++l.drop (k+1):=by
 have h1:(fF p (l.take k)).length=k:=by unfold fF;simp;omega
 rw [List.drop_eq_getElem_cons h,List.set_append,if_neg (by omega),h1,Nat.sub_self,List.set_cons_zero]
 unfold fF
 rw [List.take_succ_eq_append_getElem h,List.map_append,List.append_assoc]
 rfl
theorem aFl {p:Int} {l:List Ask} {k:Nat} (h:k<l.length):(fF p (l.take k)++l.drop k).getD k default=l[k]:=by
 have h1:(fF p (l.take k)).length=k:=by unfold fF;simp;omega
 rw [List.getD_eq_getElem?_getD,List.getElem?_append_right (by omega),h1,Nat.sub_self]
 simp [h]
theorem aFk {p:Int} {l:List Ask} {k:Nat}:(fF p (l.take k)++l.drop k).length=l.length:=by
 unfold fF
 simp
 omega
theorem aIf (l:List Ask) (hl:l.length<2^38) (p:Int) (hm:∀ x∈l,0<=x.missed/\x.missed<=100):aT Tryz.prog 235 [.sl false 8 (l.map ASK),.int .i64 p] (.sl false 8 ((fF p l).map ASK)):=by
 unfold aT
 refine aK aVR (by simp) ?_
 unfold aOF
 refine Ya ?_
 unfold aCo
 simp -implicitDefEqProofs(disch:=first|decide|omega)only[↓aA,aC,aB,simprocAttr]
 repeat refine And.intro (by omega) ?_
 refine aF (σ:=Nat) (fun k=>⟨[(1,.int .i64 p),(5,.own 0 8 0 l.length),(6,.int .i64 (k:Int))],[.arr 8 ((fF p (l.take k)++l.drop k).map ASK)]⟩) (fun k=>k<=l.length) (fun k=>l.length-k) 0 ?_ (by omega) ?_
 · have e:fF p (l.take 0)++l.drop 0=l:=by simp [fF]
   rw [e]
   exact Sub.ofS [some 1]
 rintro k hk
 unfold aCn
 by_cases hki:k<l.length
 · have hg:=aFl (p:=p) hki
   have hs:=aFj (p:=p) hki
   have hx:=hm _ (List.getElem_mem hki)
   have hln:=aFk (p:=p) (l:=l) (k:=k)
   generalize hL:fF p (l.take k)++l.drop k=L at hg hs hln ⊢
   by_cases hp:l[k].prio=p
   · have e:yE p l[k]={ l[k] with missed:=min (l[k].missed+1) 100 }:=if_pos hp
     rw [e] at hs
     simp -implicitDefEqProofs(disch:=first|decide|omega)only[↓aA,aC,aB,simprocAttr,bB,bF,hg]
     repeat refine And.intro (by omega) ?_
     refine ⟨k+1,?_,by omega,by omega⟩
     rw [<- hs]
     exact .inl rfl
   · have e:yE p l[k]=l[k]:=if_neg hp
     rw [e] at hs
     have hs2:L.set k l[k]=L:=by
      rw [<- hg,List.getD_eq_getElem?_getD,List.getElem?_eq_getElem (by omega)]
      simp
     rw [hs2] at hs
     simp -implicitDefEqProofs(disch:=first|decide|omega)only[↓aA,aC,aB,simprocAttr,bB,bF,hg,hp]
     repeat refine And.intro (by omega) ?_
     refine ⟨k+1,?_,by omega,by omega⟩
     rw [<- hs]
     exact .inl rfl
 · have:k=l.length:=by omega
   subst this
   refine Yj ?_
   have e:(fF p l).length=l.length:=by simp [fF]
   rw [if_pos (by omega),List.drop_length,List.append_nil,List.take_of_length_le (by omega)]
theorem aIc (l:List Ask) (hl:l.length<2^38) (p:Int) (hm:∀ x∈l,0<=x.count/\x.count<=1000):aT Tryz.prog 233 [.sl false 8 (l.map ASK),.int .i64 p] (.tup [.sl false 8 ((fQ p l).map ASK),.bool (l.any fun a=>a.prio==p)]):=by
 unfold aT
 refine aK aVT (by simp) ?_
 unfold aOH
 refine Ya ?_
 unfold aCs
 refine Ya ?_
 refine aF (σ:=Nat) (fun k=>⟨[(0,.sl false 8 (l.map ASK)),(1,.int .i64 p),(6,.own 0 8 0 (fQ p (l.take k)).length),(7,.bool ((l.take k).any fun a=>a.prio==p)),(8,.int .i64 (k:Int))],[.arr 8 ((fQ p (l.take k)).map ASK)]⟩) (fun k=>k<=l.length) (fun k=>l.length-k) 0 ?_ (by omega) ?_
 · exact Sub.ofS [none]
 rintro k hk
 unfold aCr
 have hfl:(fQ p (l.take k)).length<=l.length:=Nat.le_trans (List.length_filterMap_le _ _) (by simp;omega)
 by_cases hki:k<l.length
 · have hg:l.getD k default=l[k]:=by simp [hki]
   have hx:=hm _ (List.getElem_mem hki)
   have e2:l.take (k+1)=l.take k++[l[k]]:=List.take_succ_eq_append_getElem hki
   have e3:(l.take (k+1)).any (fun a=>a.prio==p)=((l.take k).any (fun a=>a.prio==p)||(l[k].prio==p)):=by rw [e2,List.any_append,List.any_cons,List.any_nil,Bool.or_false]
   have e4:fQ p (l.take (k+1))=fQ p (l.take k)++fQ p [l[k]]:=by rw [e2];unfold fQ;rw [List.filterMap_append]
   generalize hout:fQ p (l.take k)=out at e4 hfl ⊢
   by_cases hp:l[k].prio=p
   · rw [beq_iff_eq.2 hp,Bool.or_true] at e3
     by_cases hc:l[k].count-1<=0
     · have e5:fQ p [l[k]]=[]:=by simp [fQ,hp,hc]
       rw [e5,List.append_nil] at e4
       simp -implicitDefEqProofs(disch:=first|decide|omega)only[↓aA,aC,aB,simprocAttr,bB,bF,hg]
       repeat refine And.intro (by omega) ?_
       refine ⟨k+1,?_,by omega,by omega⟩
       simp only [e3,e4]
       exact Sub.ofS [some 0]
     · have e5:fQ p [l[k]]=[{ l[k] with count:=l[k].count-1,missed:=0 }]:=by simp [fQ,hp,hc]
       rw [e5] at e4
       simp -implicitDefEqProofs(disch:=first|decide|omega)only[↓aA,aC,aB,simprocAttr,bB,bF,hg]
       repeat refine And.intro (by omega) ?_
       refine ⟨k+1,?_,by omega,by omega⟩
       simp only [e3,e4,List.map_append,List.map_cons,List.map_nil,List.length_append,List.length_cons,List.length_nil]
       exact Sub.ofS [some 3]
   · rw [beq_eq_false_iff_ne.2 hp,Bool.or_false] at e3
     have e5:fQ p [l[k]]=[l[k]]:=by simp [fQ,hp]
     rw [e5] at e4
     simp -implicitDefEqProofs(disch:=first|decide|omega)only[↓aA,aC,aB,simprocAttr,bB,bF,hg,hp]
     repeat refine And.intro (by omega) ?_
     refine ⟨k+1,?_,by omega,by omega⟩
     simp only [e3,e4,List.map_append,List.map_cons,List.map_nil,List.length_append,List.length_cons,List.length_nil]
     exact Sub.ofS [some 3]
 · have:k=l.length:=by omega
   subst this
   simp -implicitDefEqProofs(disch:=first|decide|omega)only[↓aA,aC,aB,simprocAttr,bB,List.take_length]
theorem yQ (a:Int):aT Tryz.prog 196 [.int .i64 a] (.bool (decide (1<=a/\a<=2^30))):=by
 unfold aT
 refine aK aWa (by simp) ?_
 unfold aPb
 by_cases h:1<=a
 · simp -implicitDefEqProofs(disch:=first|decide|omega)only[↓aA,aC,aB,simprocAttr,h]
 · simp -implicitDefEqProofs(disch:=first|decide|omega)only[↓aA,aC,aB,simprocAttr,h]
structure aYk (a:Ask) (L:Int):Prop where
 prio:0<=a.prio/\a.prio<=9
 label:0<=a.label/\a.label<L
 size:okV a.mem a.cores
 count:0<=a.count/\a.count<=50
 node: -1<=a.node/\a.node<=999
 rack: -1<=a.rack/\a.rack<=99
set_option maxHeartbeats 1000000 in
theorem aFv (a:Ask) (L:Int):aW Tryz.prog 178 [ASK a,.int .i64 L] [] fun y _=>∃ e:Int,y= .int .i64 e/\(e=0->aYk a L):=by
 have hm:=yQ a.mem
 have hc:=yQ a.cores
 refine aK aWg (by simp) ?_
 unfold aPn
 by_cases c1:a.prio<0
 · refine Xm c1 ?_
   exact ⟨1,rfl,fun h=>by omega⟩
 by_cases c2:a.prio>9
 · refine Xm (And.intro c1 c2) ?_
   exact ⟨1,rfl,fun h=>by omega⟩
 by_cases c3:a.label<0
 · refine Xm (And.intro c1 (And.intro c2 c3)) ?_
   exact ⟨1,rfl,fun h=>by omega⟩
 by_cases c4:a.label>=L
 · refine Xm (And.intro c1 (And.intro c2 (And.intro c3 c4))) ?_
   exact ⟨1,rfl,fun h=>by omega⟩
 refine Xm (And.intro c1 (And.intro c2 (And.intro c3 c4))) ?_
 by_cases c7:1<=a.mem/\a.mem<=2^30
 case neg =>
  rw [decide_eq_false c7] at hm
  refine aE (aI.of (aM:=false) (hm) (.refl rfl) rfl (by simp)) ?_
  refine Ym ?_
  exact ⟨1,rfl,fun h=>by omega⟩
 rw [decide_eq_true c7] at hm
 refine aE (aI.of (aM:=false) (hm) (.refl rfl) rfl (by simp)) ?_
 refine Ym ?_
 by_cases c8:1<=a.cores/\a.cores<=2^30
 case neg =>
  rw [decide_eq_false c8] at hc
  refine aE (aI.of (aM:=false) (hc) (.refl rfl) rfl (by simp)) ?_
  refine Ym ?_
  exact ⟨1,rfl,fun h=>by omega⟩
 rw [decide_eq_true c8] at hc
 refine aE (aI.of (aM:=false) (hc) (.refl rfl) rfl (by simp)) ?_
 by_cases d0:a.node< -1
 · simp -implicitDefEqProofs(disch:=first|decide|omega)only[↓aA,aC,aB,simprocAttr,bB,bF,d0]
   exact ⟨1,rfl,fun h=>by omega⟩
 by_cases d1:a.node>999
 · simp -implicitDefEqProofs(disch:=first|decide|omega)only[↓aA,aC,aB,simprocAttr,bB,bF,d0,d1]
   exact ⟨1,rfl,fun h=>by omega⟩
 by_cases d2:a.rack< -1
 · simp -implicitDefEqProofs(disch:=first|decide|omega)only[↓aA,aC,aB,simprocAttr,bB,bF,d0,d1,d2]
   exact ⟨1,rfl,fun h=>by omega⟩
 by_cases d3:a.rack>99
 · simp -implicitDefEqProofs(disch:=first|decide|omega)only[↓aA,aC,aB,simprocAttr,bB,bF,d0,d1,d2,d3]
   exact ⟨1,rfl,fun h=>by omega⟩
 by_cases d5:0<=a.node
 · by_cases d6:a.rack<0
   · simp -implicitDefEqProofs(disch:=first|decide|omega)only[↓aA,aC,aB,simprocAttr,bB,bF,d0,d1,d2,d3,d5,d6]
     exact ⟨1,rfl,fun h=>by omega⟩
   · by_cases d7:a.count<0
     · simp -implicitDefEqProofs(disch:=first|decide|omega)only[↓aA,aC,aB,simprocAttr,bB,bF,d0,d1,d2,d3,d5,d6,d7]
       exact ⟨4,rfl,fun h=>by omega⟩
     · by_cases d8:a.count>50
       · simp -implicitDefEqProofs(disch:=first|decide|omega)only[↓aA,aC,aB,simprocAttr,bB,bF,d0,d1,d2,d3,d5,d6,d7,d8]
         exact ⟨4,rfl,fun h=>by omega⟩
       · simp -implicitDefEqProofs(disch:=first|decide|omega)only[↓aA,aC,aB,simprocAttr,bB,bF,d0,d1,d2,d3,d5,d6,d7,d8]
         exact ⟨0,rfl,fun h=>⟨by omega,by omega,⟨by omega,by omega,by omega,by omega⟩,by omega,by omega,by omega⟩⟩
 · by_cases d7:a.count<0
   · simp -implicitDefEqProofs(disch:=first|decide|omega)only[↓aA,aC,aB,simprocAttr,bB,bF,d0,d1,d2,d3,d5,d7]
     exact ⟨4,rfl,fun h=>by omega⟩
   · by_cases d8:a.count>50
     · simp -implicitDefEqProofs(disch:=first|decide|omega)only[↓aA,aC,aB,simprocAttr,bB,bF,d0,d1,d2,d3,d5,d7,d8]
       exact ⟨4,rfl,fun h=>by omega⟩
     · simp -implicitDefEqProofs(disch:=first|decide|omega)only[↓aA,aC,aB,simprocAttr,bB,bF,d0,d1,d2,d3,d5,d7,d8]
       exact ⟨0,rfl,fun h=>⟨by omega,by omega,⟨by omega,by omega,by omega,by omega⟩,by omega,by omega,by omega⟩⟩
def z6 (l:List Ask) (a:Ask):List Ask×Int:=if 8<(oE l a).length then ([],4) else (oE l a,0)
theorem xE (a:Ask):∀ (d:Bool) (l:List Ask),(pN a d l).length<=2*l.length+1
 | d,[]=>by cases d<;>simp [pN]
 | d,y :: r=>by
   have:=xE a (d||decide (y.prio>a.prio)) r
   unfold pN
   rw [List.length_append,List.length_append,List.length_cons]
   have h1:(if !d&&decide (y.prio>a.prio) then [a] else []).length<=1:=by split<;>simp
   have h2:(if y.prio=a.prio then [] else [y]).length<=1:=by split<;>simp
   omega
set_option maxHeartbeats 1000000 in
theorem aMI (l:List Ask) (hl:l.length<2^36) (a:Ask):aT Tryz.prog 179 [.sl false 8 (l.map ASK),ASK a] (.tup [.sl false 8 ((z6 l a).1.map ASK),.int .i64 (z6 l a).2]):=by
 refine aT.wk3 (aK aWf (by simp) ?_)
 unfold aPm
 have hL:=xE { a with missed:=0 } (a.count==0) l
 generalize hb:({ a with missed:=0 }:Ask)=b at hL
 have hbp:b.prio=a.prio:=by rw [<- hb]
 have hsA:oE l a=pN b (a.count==0) l:=by unfold oE;rw [hb]
 have hd0:∀ e:Bool,decide (a.count=0)=(a.count==0):=fun _=>rfl
 refine Ym ?_
 rw [hb]
 unfold aDw
 refine Ya ?_
 refine aF (σ:=Nat×List Ask×Bool) (fun q=>⟨[(0,.sl false 8 (l.map ASK)),(3,.ref 0 0 0),(6,.own 1 8 0 q.2.1.length),(7,.bool q.2.2),(8,.int .i64 (q.1:Int))],[.box (fC b),.arr 8 (q.2.1.map ASK)]⟩) (fun q=>q.1<=l.length/\pN b (a.count==0) l=q.2.1++pN b q.2.2 (l.drop q.1)) (fun q=>l.length-q.1) (0,[],a.count==0) ?_ ⟨by simp,by simp⟩ ?_
 · exact Sub.ofS [some 0,none]
 rintro ⟨k,out,d⟩ ⟨hk,hi⟩
 simp only at hk hi
 unfold aDv
 have hol:out.length<=2*l.length+1:=by have:=congrArg List.length hi;rw [List.length_append] at this;omega
 by_cases hki:k<l.length
 · have hg:l.getD k default=l[k]:=by simp [hki]
   rw [List.drop_eq_getElem_cons hki,pN] at hi
   cases hd:d
   · subst hd
     by_cases h1:l[k].prio>b.prio
     · have h2:¬ l[k].prio=b.prio:=by omega
       rw [if_neg h2,decide_eq_true h1] at hi
       simp -implicitDefEqProofs(disch:=first|decide|omega)only[↓aA,aC,aB,simprocAttr,bB,bF,hg,h1,h2]
       repeat refine And.intro (by omega) ?_
       refine ⟨(k+1,out++[b,l[k]],true),?_,⟨by simp only;omega,by simp only;rw [hi];simp⟩,by simp only;omega⟩
       simp only [List.map_append,List.map_cons,List.map_nil,List.length_append,List.length_cons,List.length_nil]
       have ek:List.take (out.length+1) (List.map ASK out++[ASK b])=List.map ASK out++[ASK b]:=List.take_of_length_le (by simp)
       rw [ek,List.append_assoc,List.singleton_append]
       exact Sub.ofS [some 0,some 5]
     · rw [decide_eq_false h1] at hi
       by_cases h2:l[k].prio=b.prio
       · rw [if_pos h2] at hi
         simp -implicitDefEqProofs(disch:=first|decide|omega)only[↓aA,aC,aB,simprocAttr,bB,bF,hg,h1]
         repeat refine And.intro (by omega) ?_
         refine ⟨(k+1,out,false),?_,⟨by simp only;omega,by simp only;rw [hi];simp⟩,by simp only;omega⟩
         exact .inl rfl
       · rw [if_neg h2] at hi
         simp -implicitDefEqProofs(disch:=first|decide|omega)only[↓aA,aC,aB,simprocAttr,bB,bF,hg,h1,h2]
         repeat refine And.intro (by omega) ?_
         refine ⟨(k+1,out++[l[k]],false),?_,⟨by simp only;omega,by simp only;rw [hi];simp⟩,by simp only;omega⟩
         simp only [List.map_append,List.map_cons,List.map_nil,List.length_append,List.length_cons,List.length_nil]
         exact Sub.ofS [some 0,some 3]
   · subst hd
     by_cases h2:l[k].prio=b.prio
     · rw [if_pos h2] at hi
       simp -implicitDefEqProofs(disch:=first|decide|omega)only[↓aA,aC,aB,simprocAttr,bB,bF,hg]
       repeat refine And.intro (by omega) ?_
       refine ⟨(k+1,out,true),?_,⟨by simp only;omega,by simp only;rw [hi];simp⟩,by simp only;omega⟩
       exact .inl rfl
     · rw [if_neg h2] at hi
       simp -implicitDefEqProofs(disch:=first|decide|omega)only[↓aA,aC,aB,simprocAttr,bB,bF,hg,h2]
       repeat refine And.intro (by omega) ?_
       refine ⟨(k+1,out++[l[k]],true),?_,⟨by simp only;omega,by simp only;rw [hi];simp⟩,by simp only;omega⟩
       simp only [List.map_append,List.map_cons,List.map_nil,List.length_append,List.length_cons,List.length_nil]
       exact Sub.ofS [some 0,some 3]
 · have:k=l.length:=by omega
   subst this
   rw [List.drop_length,<- hsA] at hi
   cases hd:d
   · subst hd
     have hi:oE l a=out++[b]:=hi
     by_cases h8:8<(oE l a).length
     · have er:z6 l a=([],4):=if_pos h8
       rw [er]
       rw [hi,List.length_append,List.length_singleton] at h8
       simp -implicitDefEqProofs(disch:=first|decide|omega)only[↓aA,aC,aB,simprocAttr,bB,bF,h8]
       repeat refine And.intro (by omega) ?_
       exact .inr ⟨_,_,rfl,rfl,.inl (.inr ⟨rfl,_,_,rfl⟩),.inl (.inl rfl),trivial⟩
     · have er:z6 l a=(oE l a,0):=if_neg h8
       rw [er]
       rw [hi,List.length_append,List.length_singleton] at h8
       simp -implicitDefEqProofs(disch:=first|decide|omega)only[↓aA,aC,aB,simprocAttr,bB,bF,h8]
       repeat refine And.intro (by omega) ?_
       have ek:List.take (out.length+1) (List.map ASK out++[ASK b])=(oE l a).map ASK:=by
        rw [hi,List.take_of_length_le (by simp),List.map_append]
        rfl
       rw [ek]
       exact .inl (.inl (.inl rfl))
   · subst hd
     have hi:oE l a=out:=by rw [hi];simp [pN]
     by_cases h8:8<(oE l a).length
     · have er:z6 l a=([],4):=if_pos h8
       rw [er]
       rw [hi] at h8
       refine Xm h8 ?_
       exact .inr ⟨_,_,rfl,rfl,.inl (.inr ⟨rfl,_,_,rfl⟩),.inl (.inl rfl),trivial⟩
     · have er:z6 l a=(oE l a,0):=if_neg h8
       rw [er]
       rw [hi] at h8 ⊢
       refine Xm h8 ?_
       exact .inl (.inl (.inl rfl))
def w5:dY:=⟨0,0,0⟩
def aGJ (node:Int) (l:List dY):Option dY:=l.find? fun x=>x.node==node
def aAz (app prio:Int) (l:List dY):Bool:=l.any fun x=>x.app==app&&x.prio==prio
theorem pZ (s:Sta) (hl:s.slots.length<2^38) (id:Int):aT Tryz.prog 153 [.agg (stC s),.int .i64 id] (.agg (stC (bV s id))):=by
 unfold aT
 refine aO aR1 (by simp) ?_
 unfold aPA
 refine Yf ?_
 unfold aDU
 refine Ya ?_
 refine aF (σ:=Nat) (fun k=>⟨[(1,.int .i64 id),(2,.ref 0 0 0),(4,.ref 1 0 0),(5,.own 2 3 0 ((s.slots.take k).filter fun c=>c.node !=id).length),(6,.int .i64 (k:Int))],[.box (stC s),.box [.aD,.aD,.aD,.aD,.aD,.aD,.aD,.int .i64 0,.int .i64 0,.int .i64 0],.arr 3 (((s.slots.take k).filter fun c=>c.node !=id).map gW)]⟩) (fun k=>k<=s.slots.length) (fun k=>s.slots.length-k) 0 ?_ (by omega) ?_
 · exact Sub.ofS [some 0,some 1,none]
 rintro k hk
 unfold aDT
 have hfl:=dA (p:=fun c:dY=>c.node !=id) (l:=s.slots) (k:=k)
 by_cases hki:k<s.slots.length
 · have hg:s.slots.getD k default=s.slots[k]:=by simp [hki]
   have e:=cH (p:=fun c:dY=>c.node !=id) hki
   generalize hout:(s.slots.take k).filter (fun c:dY=>c.node !=id)=out at e hfl ⊢
   by_cases hp:s.slots[k].node=id
   · rw [if_neg (by simp [hp]),List.append_nil] at e
     simp -implicitDefEqProofs(disch:=first|decide|omega)only[↓aA,aC,aB,simprocAttr,bB,cU,hg,hp]
     repeat refine And.intro (by omega) ?_
     refine ⟨k+1,?_,by omega,by omega⟩
     simp only [e]
     exact .inl rfl
   · rw [if_pos (by simp [hp])] at e
     simp -implicitDefEqProofs(disch:=first|decide|omega)only[↓aA,aC,aB,simprocAttr,bB,cU,hg,hp]
     repeat refine And.intro (by omega) ?_
     refine ⟨k+1,?_,by omega,by omega⟩
     simp only [e,List.map_append,List.map_cons,List.map_nil,List.length_append,List.length_cons,List.length_nil]
     exact Sub.ofS [some 0,some 1,some 4]
 · have:k=s.slots.length:=by omega
   subst this
   refine Yj ?_
   rfl
theorem aKa (s:Sta) (hl:s.slots.length<2^62) (id:Int):aT Tryz.prog 193 [.agg (stC s),.int .i64 id] (dT gW w5 (aGJ id s.slots)):=by
 unfold aT
 refine aO aRT (by simp) ?_
 unfold aPe dT aGJ
 refine Yf ?_
 unfold aDc
 refine Ya ?_
 refine aF (σ:=Nat) (fun k=>⟨[(1,.int .i64 id),(2,.ref 0 0 0),(4,.ref 1 0 0),(6,.int .i64 (k:Int))],[.box (stC s),.box (gF w5)]⟩) (fun k=>k<=s.slots.length/\s.slots.find? (fun a=>a.node==id)=(s.slots.drop k).find? (fun a=>a.node==id)) (fun k=>s.slots.length-k) 0 (.inl rfl) ⟨by omega,by simp⟩ ?_
 rintro k ⟨hk,hf⟩
 unfold aDb
 by_cases hki:k<s.slots.length
 · have hg:s.slots.getD k default=s.slots[k]:=by simp [hki]
   rw [List.drop_eq_getElem_cons hki,List.find?_cons] at hf
   by_cases hp:s.slots[k].node=id
   · rw [beq_iff_eq.2 hp] at hf
     refine Xo (And.intro hg (And.intro hf hp)) ?_
     exact ⟨by omega,by omega,by omega,by omega,rfl⟩
   · rw [beq_eq_false_iff_ne.2 hp] at hf
     refine Xo (And.intro hg hp) ?_
     exact ⟨by omega,by omega,k+1,.inl rfl,⟨by omega,hf⟩,by omega⟩
 · have:k=s.slots.length:=by omega
   subst this
   rw [List.drop_length] at hf
   simp -implicitDefEqProofs(disch:=first|decide|omega)only[↓aA,aC,aB,simprocAttr,bB,cU,hf]
   repeat first|exact rfl|refine And.intro (by rfl) ?_
theorem aIg (s:Sta) (hl:s.slots.length<2^62) (app prio:Int):aT Tryz.prog 236 [.agg (stC s),.int .i64 app,.int .i64 prio] (.bool (aAz app prio s.slots)):=by
 unfold aT
 refine aK aVQ (by simp) ?_
 unfold aOE aAz
 refine Yf ?_
 unfold aCm
 refine Ya ?_
 refine aF (σ:=Nat) (fun k=>⟨[(1,.int .i64 app),(2,.int .i64 prio),(3,.ref 0 0 0),(7,.int .i64 (k:Int))],[.box (stC s)]⟩) (fun k=>k<=s.slots.length/\s.slots.any (fun x=>x.app==app&&x.prio==prio)=(s.slots.drop k).any (fun x=>x.app==app&&x.prio==prio)) (fun k=>s.slots.length-k) 0 (.inl rfl) ⟨by omega,by simp⟩ ?_
 rintro k ⟨hk,hf⟩
 unfold aCl
 by_cases hki:k<s.slots.length
 · have hg:s.slots.getD k default=s.slots[k]:=by simp [hki]
   rw [List.drop_eq_getElem_cons hki,List.any_cons] at hf
   by_cases hp:s.slots[k].app=app
   · by_cases hr:s.slots[k].prio=prio
     · rw [beq_iff_eq.2 hp,beq_iff_eq.2 hr] at hf
       have hf:s.slots.any (fun x=>x.app==app&&x.prio==prio)=true:=by rw [hf];rfl
       simp -implicitDefEqProofs(disch:=first|decide|omega)only[↓aA,aC,aB,simprocAttr,bB,cU,hg,hf]
       repeat refine And.intro (by omega) ?_
       all_goals first|rfl|omega
     · rw [beq_eq_false_iff_ne.2 hr,Bool.and_false,Bool.false_or] at hf
       simp -implicitDefEqProofs(disch:=first|decide|omega)only[↓aA,aC,aB,simprocAttr,bB,cU,hg,hr]
       repeat refine And.intro (by omega) ?_
       exact ⟨k+1,.inl rfl,⟨by omega,hf⟩,by omega⟩
   · rw [beq_eq_false_iff_ne.2 hp,Bool.false_and,Bool.false_or] at hf
     simp -implicitDefEqProofs(disch:=first|decide|omega)only[↓aA,aC,aB,simprocAttr,bB,cU,hg,hp]
     repeat refine And.intro (by omega) ?_
     exact ⟨k+1,.inl rfl,⟨by omega,hf⟩,by omega⟩
 · have:k=s.slots.length:=by omega
   subst this
   rw [List.drop_length] at hf
   refine Xo hf ?_
   rfl
theorem aMS (s:Sta) (hl:s.slots.length<2^38) (n:dY):aT Tryz.prog 237 [.agg (stC s),gW n] (.agg (stC (yW s n))):=by
 unfold aT
 refine aO aRD (by simp) ?_
 unfold aOD
 simp -implicitDefEqProofs(disch:=first|decide|omega)only[↓aA,aC,aB,simprocAttr,stC,xC]
 unfold aCk
 refine Ya ?_
 refine aF (σ:=Nat) (fun k=>⟨[(2,.ref 0 0 0),(3,.ref 1 0 0),(4,.ref 2 0 0),(5,.int .i64 (k:Int))],[.box (stC s),.box (gF n),.box [.aD,.aD,.aD,.aD,.aD,.aD,.aD,.int .i64 0,.int .i64 0,.int .i64 0]]⟩) (fun k=>k<=s.slots.length/\∀ j,(hj:j<k)->(h:j<s.slots.length)->s.slots[j].node<n.node) (fun k=>s.slots.length-k) 0 (.inl rfl) ⟨by omega,fun j hj=>by omega⟩ ?_
 rintro k ⟨hk,hf⟩
 unfold aCj
 by_cases hki:k<s.slots.length
 · have hg:s.slots.getD k default=s.slots[k]:=by simp [hki]
   by_cases hp:s.slots[k].node<n.node
   · simp -implicitDefEqProofs(disch:=first|decide|omega)only[↓aA,aC,aB,simprocAttr,bB,xC,hg,hp]
     exact ⟨by omega,by omega,k+1,.inl rfl,⟨by omega,fun j hj h=>by
      by_cases hjk:j=k
      · subst hjk;exact hp
      · exact hf j (by omega) h⟩,by omega⟩
   · have e:=j5 (key:=dY.node) (n:=n) hk (fun j hj=>hf j hj (by omega)) (fun _=>hp)
     simp -implicitDefEqProofs(disch:=first|decide|omega)only[↓aA,aC,aB,simprocAttr,bB,xC,hg,hp]
     unfold yW
     simp only [e]
     repeat' first|omega|apply And.intro
     simp [List.take_of_length_le,Nat.min_eq_left hk]
     exact List.take_of_length_le (by simp;omega)
 · have e:=j5 (key:=dY.node) (n:=n) hk (fun j hj=>hf j hj (by omega)) (fun h=>absurd h hki)
   have:k=s.slots.length:=by omega
   subst this
   simp -implicitDefEqProofs(disch:=first|decide|omega)only[↓aA,aC,aB,simprocAttr,bB,xC]
   unfold yW
   simp only [e]
   repeat' first|omega|apply And.intro
   simp [List.take_of_length_le,Nat.min_eq_left hk]
end Go.Proofs.YtakemdamegfcfaaGreat
