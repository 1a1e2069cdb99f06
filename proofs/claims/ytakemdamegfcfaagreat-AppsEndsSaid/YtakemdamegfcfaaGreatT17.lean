/- A part of a proof: what functions of the program compute. No condition. -/
import Derived.Test.YtakemdamegfcfaaGreatProg
import Derived.KernelRfl
import Derived.Test.YtakemdamegfcfaaGreatT6
import Derived.Test.YtakemdamegfcfaaGreatT10
import Derived.Test.YtakemdamegfcfaaGreatT16
import Derived.Test.YtakemdamegfcfaaGreatT12
import Derived.Test.YtakemdamegfcfaaGreatT13
set_option linter.unusedSimpArgs false
set_option linter.unusedVariables false
set_option maxHeartbeats 16000000
set_option maxRecDepth 100000
namespace Go.Proofs.YtakemdamegfcfaaGreat
open Go Go.Ab
def a1B:{c:CC // aJ Tryz.prog 113=c}:=⟨_,by conv=>lhs;reduce⟩
def aZU:{c:CC // bA Tryz.prog 113 {} a1B.1 []=c}:=⟨_,by conv=>lhs;reduce⟩
def aPY:CC:=(fun (c:CC) (_:(aZU.1)=c)=>c) _ (by conv=>lhs;reduce)
theorem aR5:aX Tryz.prog 113 aPY [.ce 2 27 2 true] 13:=aX.of Tryz.f113 Tryz.func113 rfl ⟨by kernel_rfl,trivial⟩
def a05:{c:CC // aJ Tryz.prog 174=c}:=⟨_,by conv=>lhs;reduce⟩
def aTT:{c:CC // bA Tryz.prog 174 {} a05.1 []=c}:=⟨_,by conv=>lhs;reduce⟩
def aDz:CC:=(fun (c:CC) (_:(aTT.1.aV [1,1,1,0,1,0,0])=c)=>c) _ (by conv=>lhs;reduce)
def aDA:CC:=(fun (c:CC->CC) (_:(fun a0=>(aTT.1.aV [1,1,1,0,1]).aU [0,0] a0)=c)=>c) _ (by conv=>lhs;reduce) aDz
def aPq:CC:=(fun (c:CC->CC) (_:(fun a0=>(aTT.1).aU [1,1,1,0,1] a0)=c)=>c) _ (by conv=>lhs;reduce) aDA
theorem aWi:aZ Tryz.prog 174 aPq [4] 39:=aZ.of Tryz.f174 Tryz.func174 rfl
def a04:{c:CC // aJ Tryz.prog 175=c}:=⟨_,by conv=>lhs;reduce⟩
def aTS:{c:CC // bA Tryz.prog 175 {} a04.1 []=c}:=⟨_,by conv=>lhs;reduce⟩
def aDx:CC:=(fun (c:CC) (_:(aTS.1.aV [1,1,1,0,1,0,0])=c)=>c) _ (by conv=>lhs;reduce)
def aDy:CC:=(fun (c:CC->CC) (_:(fun a0=>(aTS.1.aV [1,1,1,0,1]).aU [0,0] a0)=c)=>c) _ (by conv=>lhs;reduce) aDx
def aPp:CC:=(fun (c:CC->CC) (_:(fun a0=>(aTS.1).aU [1,1,1,0,1] a0)=c)=>c) _ (by conv=>lhs;reduce) aDy
theorem aWh:aZ Tryz.prog 175 aPp [2] 27:=aZ.of Tryz.f175 Tryz.func175 rfl
def a0V:{c:CC // aJ Tryz.prog 184=c}:=⟨_,by conv=>lhs;reduce⟩
def aTO:{c:CC // bA Tryz.prog 184 {} a0V.1 [([1,0,0],(.f [0,1,3,5,2,6,8,2004,2007,2009,10])),([1,1,0,1,0,0,1,0,0,1,0],(.f [0,1,2,3,4,5,6,7,8,9,10,11,12,14,16,13,17,19,2015,2018,2020,21,22]))]=c}:=⟨_,by conv=>lhs;reduce⟩
def aDh:CC:=(fun (c:CC) (_:(aTO.1.aV [1,1,0,1,0,0])=c)=>c) _ (by conv=>lhs;reduce)
def aDi:CC:=(fun (c:CC->CC) (_:(fun a0=>(aTO.1.aV [1,1,0,1]).aU [0,0] a0)=c)=>c) _ (by conv=>lhs;reduce) aDh
def aPh:CC:=(fun (c:CC->CC) (_:(fun a0=>(aTO.1).aU [1,1,0,1] a0)=c)=>c) _ (by conv=>lhs;reduce) aDi
theorem aWc:aZ Tryz.prog 184 aPh [10] 58:=aZ.of Tryz.f184 Tryz.func184 rfl
def a0U:{c:CC // aJ Tryz.prog 191=c}:=⟨_,by conv=>lhs;reduce⟩
def aTN:{c:CC // bA Tryz.prog 191 {} a0U.1 []=c}:=⟨_,by conv=>lhs;reduce⟩
def aDf:CC:=(fun (c:CC) (_:(aTN.1.aV [1,1,1,0,1,0,0])=c)=>c) _ (by conv=>lhs;reduce)
def aDg:CC:=(fun (c:CC->CC) (_:(fun a0=>(aTN.1.aV [1,1,1,0,1]).aU [0,0] a0)=c)=>c) _ (by conv=>lhs;reduce) aDf
def aPg:CC:=(fun (c:CC->CC) (_:(fun a0=>(aTN.1).aU [1,1,1,0,1] a0)=c)=>c) _ (by conv=>lhs;reduce) aDg
theorem aWb:aZ Tryz.prog 191 aPg [2,3] 49:=aZ.of Tryz.f191 Tryz.func191 rfl
def a0T:{c:CC // aJ Tryz.prog 192=c}:=⟨_,by conv=>lhs;reduce⟩
def aTM:{c:CC // bA Tryz.prog 192 {} a0T.1 []=c}:=⟨_,by conv=>lhs;reduce⟩
def aDd:CC:=(fun (c:CC) (_:(aTM.1.aV [1,1,0,0,0])=c)=>c) _ (by conv=>lhs;reduce)
def aDe:CC:=(fun (c:CC->CC) (_:(fun a0=>(aTM.1.aV [1,1,0]).aU [0,0] a0)=c)=>c) _ (by conv=>lhs;reduce) aDd
def aPf:CC:=(fun (c:CC->CC) (_:(fun a0=>(aTM.1).aU [1,1,0] a0)=c)=>c) _ (by conv=>lhs;reduce) aDe
theorem aRU:aX Tryz.prog 192 aPf [.ce 2 136 2 true,.tm 3] 48:=aX.of Tryz.f192 Tryz.func192 rfl ⟨by kernel_rfl,trivial⟩
def a0L:{c:CC // aJ Tryz.prog 200=c}:=⟨_,by conv=>lhs;reduce⟩
def aTI:{c:CC // bA Tryz.prog 200 {} a0L.1 []=c}:=⟨_,by conv=>lhs;reduce⟩
def aC1:CC:=(fun (c:CC) (_:(aTI.1.aV [1,1,0,1,0,0])=c)=>c) _ (by conv=>lhs;reduce)
def aC2:CC:=(fun (c:CC->CC) (_:(fun a0=>(aTI.1.aV [1,1,0,1]).aU [0,0] a0)=c)=>c) _ (by conv=>lhs;reduce) aC1
def aO7:CC:=(fun (c:CC->CC) (_:(fun a0=>(aTI.1).aU [1,1,0,1] a0)=c)=>c) _ (by conv=>lhs;reduce) aC2
theorem aV7:aZ Tryz.prog 200 aO7 [6] 30:=aZ.of Tryz.f200 Tryz.func200 rfl
def a0K:{c:CC // aJ Tryz.prog 201=c}:=⟨_,by conv=>lhs;reduce⟩
def aKv:{c:CC // bA Tryz.prog 201 { fz:=[(true,58,[58])] } a0K.1 [([1,1,0],(.f [1,3,0,2,2004,5,2006,7]))]=c}:=⟨_,by conv=>lhs;reduce⟩
def aCY:CC:=(fun (c:CC) (_:(aKv.1.aV [1,1,1,0,1,0,0,1,0,0,1,0,0,0])=c)=>c) _ (by conv=>lhs;reduce)
def aC0:CC:=(fun (c:CC->CC) (_:(fun a0=>(aKv.1.aV [1,1,1,0,1,0,0,1,0,0,1,0]).aU [0,0] a0)=c)=>c) _ (by conv=>lhs;reduce) aCY
def aCX:CC:=(fun (c:CC->CC) (_:(fun a0=>(aKv.1.aV [1,1,1,0,1,0,0]).aU [1,0,0,1,0] a0)=c)=>c) _ (by conv=>lhs;reduce) aC0
def aCZ:CC:=(fun (c:CC->CC) (_:(fun a0=>(aKv.1.aV [1,1,1,0,1]).aU [0,0] a0)=c)=>c) _ (by conv=>lhs;reduce) aCX
def aO6:CC:=(fun (c:CC->CC) (_:(fun a0=>(aKv.1).aU [1,1,1,0,1] a0)=c)=>c) _ (by conv=>lhs;reduce) aCZ
theorem aV6:aZ Tryz.prog 201 aO6 [4] 60:=aZ.of Tryz.f201 Tryz.func201 rfl
def a0J:{c:CC // aJ Tryz.prog 202=c}:=⟨_,by conv=>lhs;reduce⟩
def aKu:{c:CC // bA Tryz.prog 202 {} a0J.1 [([1,0],(.f [1,2,6,7,0,5,2003,4,2008,9,10,11]))]=c}:=⟨_,by conv=>lhs;reduce⟩
def aCU:CC:=(fun (c:CC) (_:(aKu.1.aV [1,1,0,1,0,0,1,0,0,1,1,0,0])=c)=>c) _ (by conv=>lhs;reduce)
def aCW:CC:=(fun (c:CC->CC) (_:(fun a0=>(aKu.1.aV [1,1,0,1,0,0,1,0,0,1,1]).aU [0,0] a0)=c)=>c) _ (by conv=>lhs;reduce) aCU
def aCT:CC:=(fun (c:CC->CC) (_:(fun a0=>(aKu.1.aV [1,1,0,1,0,0]).aU [1,0,0,1,1] a0)=c)=>c) _ (by conv=>lhs;reduce) aCW
def aCV:CC:=(fun (c:CC->CC) (_:(fun a0=>(aKu.1.aV [1,1,0,1]).aU [0,0] a0)=c)=>c) _ (by conv=>lhs;reduce) aCT
def aO5:CC:=(fun (c:CC->CC) (_:(fun a0=>(aKu.1).aU [1,1,0,1] a0)=c)=>c) _ (by conv=>lhs;reduce) aCV
theorem aV5:aZ Tryz.prog 202 aO5 [6] 81:=aZ.of Tryz.f202 Tryz.func202 rfl
def a0I:{c:CC // aJ Tryz.prog 203=c}:=⟨_,by conv=>lhs;reduce⟩
def aTH:{c:CC // bA Tryz.prog 203 {} a0I.1 []=c}:=⟨_,by conv=>lhs;reduce⟩
def aCR:CC:=(fun (c:CC) (_:(aTH.1.aV [1,1,0,1,0,0])=c)=>c) _ (by conv=>lhs;reduce)
def aCS:CC:=(fun (c:CC->CC) (_:(fun a0=>(aTH.1.aV [1,1,0,1]).aU [0,0] a0)=c)=>c) _ (by conv=>lhs;reduce) aCR
def aO4:CC:=(fun (c:CC->CC) (_:(fun a0=>(aTH.1).aU [1,1,0,1] a0)=c)=>c) _ (by conv=>lhs;reduce) aCS
theorem aV4:aZ Tryz.prog 203 aO4 [8] 56:=aZ.of Tryz.f203 Tryz.func203 rfl
def a0C:{c:CC // aJ Tryz.prog 213=c}:=⟨_,by conv=>lhs;reduce⟩
def aZA:{c:CC // bA Tryz.prog 213 {} a0C.1 [([1,0],(.f [1,2,5,9,10,0,3,6,8,11,2004,2007,2012,2013,14]))]=c}:=⟨_,by conv=>lhs;reduce⟩
def aOY:CC:=(fun (c:CC) (_:(aZA.1)=c)=>c) _ (by conv=>lhs;reduce)
theorem aV1:aZ Tryz.prog 213 aOY [6] 21:=aZ.of Tryz.f213 Tryz.func213 rfl
def a0B:{c:CC // aJ Tryz.prog 214=c}:=⟨_,by conv=>lhs;reduce⟩
def aZz:{c:CC // bA Tryz.prog 214 {} a0B.1 [([1,0],(.f [1,2,3,6,7,0,5,2004,2008,2009,10]))]=c}:=⟨_,by conv=>lhs;reduce⟩
def aOX:CC:=(fun (c:CC) (_:(aZz.1)=c)=>c) _ (by conv=>lhs;reduce)
theorem aV0:aZ Tryz.prog 214 aOX [8] 19:=aZ.of Tryz.f214 Tryz.func214 rfl
def a0f:{c:CC // aJ Tryz.prog 238=c}:=⟨_,by conv=>lhs;reduce⟩
def aTs:{c:CC // bA Tryz.prog 238 {} a0f.1 []=c}:=⟨_,by conv=>lhs;reduce⟩
def aCh:CC:=(fun (c:CC) (_:(aTs.1.aV [1,1,0,1,0,0])=c)=>c) _ (by conv=>lhs;reduce)
def aCi:CC:=(fun (c:CC->CC) (_:(fun a0=>(aTs.1.aV [1,1,0,1]).aU [0,0] a0)=c)=>c) _ (by conv=>lhs;reduce) aCh
def aOC:CC:=(fun (c:CC->CC) (_:(fun a0=>(aTs.1).aU [1,1,0,1] a0)=c)=>c) _ (by conv=>lhs;reduce) aCi
theorem aVP:aZ Tryz.prog 238 aOC [4] 21:=aZ.of Tryz.f238 Tryz.func238 rfl
theorem wL {s:Sta} (h:ST s) (id:Int):((dP id s.apps).getD gI).queue.length<=60:=by
 cases hf:dP id s.apps with
 | none=>decide
 | some a=>exact (h.ar a (List.mem_of_find?_eq_some hf)).queue
theorem aLi (a b:List UInt8) (ha:a.length<=60):aW Tryz.prog 238 [.str a,.str b] [] fun y _=>qB y:=by
 refine aK aVP (by simp) ?_
 unfold aOC
 refine Ya ?_
 refine aE (aI.of (aM:=false) (zQ a (by omega)) (.refl rfl) rfl (by simp)) ?_
 refine Ya ?_
 have hul:=rH _ a (Nat.le_refl _)
 generalize upL a=U at hul ⊢
 unfold aCi
 refine Ya ?_
 refine aF (σ:=Nat) (fun z=>⟨[(1,.str b),(5,.sl false 1 (U.map .str)),(6,.int .i64 (z:Int))],[]⟩) (fun z=>z<=U.length) (fun z=>U.length-z) 0 ?_ (by simp) ?_
 · exact .inl rfl
 rintro i hi
 unfold aCh
 by_cases hn:i<U.length
 · simp -implicitDefEqProofs(disch:=first|decide|omega)only[↓aA,aC,aB,simprocAttr]
   repeat' first
    | exact ⟨_,rfl⟩
    | (refine ⟨i+1,?_,by omega,by omega⟩;exact .inl rfl;done)
    | with_reducible apply And.intro
    | omega
    | (refine bC (fun hb=>?_) (fun hb=>?_)<;>simp -implicitDefEqProofs(disch:=first|decide|omega)only[↓aA,aC,aB,simprocAttr,hb])
    | (refine a8 (fun hb=>?_) (fun hb=>?_)<;>simp -implicitDefEqProofs(disch:=first|decide|omega)only[↓aA,aC,aB,simprocAttr,hb])
 · simp -implicitDefEqProofs(disch:=first|decide|omega)only[↓aA,aC,aB,simprocAttr]
   repeat' first
    | exact ⟨_,rfl⟩
    | with_reducible apply And.intro
    | omega
theorem aA0 {s:Sta} (h:ST s) (id:Int):aT Tryz.prog 40 [.agg (stC s),.int .i64 id] (.tup [APP ((dP id s.apps).getD gI),.bool (dP id s.apps).isSome]):=by
 have k3:=h.a
 have:=gV s (by omega) id
 unfold dT at this
 exact this
theorem aLj {s:Sta} (h:ST s) (p:List UInt8) (hp:p.length<=60) (k:Int) (b:Bool) (w:Int):aW Tryz.prog 220 [.agg (stC s),.str p,.int .i64 k,.bool b,.int .i64 w] [] fun y _=>qV y:=by
 have k1:=h.k
 have k2:=h.n
 have k3:=h.a
 have k4:=h.p
 refine aO aRK (by simp) ?_
 unfold aOR
 simp -implicitDefEqProofs(disch:=first|decide|omega)only[↓aA,aC,aB,simprocAttr,bB,aY,a9]
 unfold aCC
 refine Ya ?_
 refine aF (σ:=Nat×Int×Int) (fun z=>⟨[(1,.str p),(2,.int .i64 k),(3,.bool b),(4,.int .i64 w),(5,.ref 0 0 0),(10,.ref 1 0 0),(11,.ref 2 0 0),(12,.int .i64 (z.1:Int))],[.box (stC s),.box [.int .i64 0,.int .i64 0],.box [.int .i64 z.2.1,.int .i64 z.2.2]]⟩) (fun z=>z.1<=s.conts.length) (fun z=>s.conts.length-z.1) (0,0,0) ?_ (by simp) ?_
 · exact Sub.ofS [some 0,some 1,some 2]
 rintro ⟨i,u,v⟩ hi
 simp only at hi
 unfold aCB
 by_cases hn:i<s.conts.length
 · simp -implicitDefEqProofs(disch:=first|decide|omega)only[↓aA,aC,aB,simprocAttr,bB,aY,a9]
   repeat' first
    | exact ⟨_,_,rfl⟩
    | (refine ⟨(i+1,va,vb),?_,by simp only;omega,by simp only;omega⟩;(refine Sub.of0 [some 0,some 1,some 2] rfl ?_ rfl ?_<;>repeat' first|trivial|rfl|exact .inl rfl|exact .inr ⟨rfl,_,_,rfl⟩|(simp;done)|(simp;omega)|refine And.intro ?_ ?_);done)
    | (refine ⟨(i+1,u,v),?_,by simp only;omega,by simp only;omega⟩;(refine Sub.of0 [some 0,some 1,some 2] rfl ?_ rfl ?_<;>repeat' first|trivial|rfl|exact .inl rfl|exact .inr ⟨rfl,_,_,rfl⟩|(simp;done)|(simp;omega)|refine And.intro ?_ ?_);done)
    | with_reducible apply And.intro
    | omega
    | (refine aE (aI.of (aM:=false) (aA0 h _) (.refl rfl) rfl (by simp)) ?_;simp -implicitDefEqProofs(disch:=first|decide|omega)only[↓aA,aC,aB,simprocAttr,bB,aY,a9])
    | (refine bP (aA0 h _) rfl rfl ?_;simp -implicitDefEqProofs(disch:=first|decide|omega)only[↓aA,aC,aB,simprocAttr,bB,aY,a9])
    | (refine aH (aLi _ _ (wL h _)) rfl (by rintro _ ⟨_,rfl⟩;rfl) ?_;rintro _ ⟨bb,rfl⟩;simp -implicitDefEqProofs(disch:=first|decide|omega)only[↓aA,aC,aB,simprocAttr,bB,aY,a9])
    | (refine a7 (aLi _ _ (wL h _)) rfl (by rintro _ ⟨_,rfl⟩;rfl) ?_;rintro _ ⟨bb,rfl⟩;simp -implicitDefEqProofs(disch:=first|decide|omega)only[↓aA,aC,aB,simprocAttr,bB,aY,a9])
    | (refine aH (q22 _ _ _ _) rfl (by rintro _ ⟨_,_,rfl⟩;rfl) ?_;rintro _ ⟨va,vb,rfl⟩;simp -implicitDefEqProofs(disch:=first|decide|omega)only[↓aA,aC,aB,simprocAttr,bB,aY,a9])
    | (refine a7 (q22 _ _ _ _) rfl (by rintro _ ⟨_,_,rfl⟩;rfl) ?_;rintro _ ⟨va,vb,rfl⟩;simp -implicitDefEqProofs(disch:=first|decide|omega)only[↓aA,aC,aB,simprocAttr,bB,aY,a9])
    | (refine bC (fun hb=>?_) (fun hb=>?_)<;>simp -implicitDefEqProofs(disch:=first|decide|omega)only[↓aA,aC,aB,simprocAttr,hb,bB,aY,a9])
    | (refine a8 (fun hb=>?_) (fun hb=>?_)<;>simp -implicitDefEqProofs(disch:=first|decide|omega)only[↓aA,aC,aB,simprocAttr,hb,bB,aY,a9])
 · simp -implicitDefEqProofs(disch:=first|decide|omega)only[↓aA,aC,aB,simprocAttr,bB,aY,a9]
   repeat' first
    | exact ⟨_,_,rfl⟩
    | with_reducible apply And.intro
    | omega
theorem aUK {s:Sta} (h:ST s) (p:List UInt8) (hp:p.length<=60) (k:Int):aW Tryz.prog 223 [.agg (stC s),.str p,.int .i64 k] [] fun y _=>qV y:=by
 have k1:=h.k
 have k2:=h.n
 have k3:=h.a
 have k4:=h.p
 refine aO aRI (by simp) ?_
 unfold aOP
 refine Yh ?_
 unfold aCA
 refine Ya ?_
 refine aF (σ:=Nat×Int×Int) (fun z=>⟨[(1,.str p),(2,.int .i64 k),(3,.ref 0 0 0),(6,.ref 1 0 0),(7,.ref 2 0 0),(8,.int .i64 (z.1:Int))],[.box (stC s),.box [.int .i64 0,.int .i64 0],.box [.int .i64 z.2.1,.int .i64 z.2.2]]⟩) (fun z=>z.1<=s.apps.length) (fun z=>s.apps.length-z.1) (0,0,0) ?_ (by simp) ?_
 · exact Sub.ofS [some 0,some 1,some 2]
 rintro ⟨i,u,v⟩ hi
 simp only at hi
 unfold aCz
 by_cases hn:i<s.apps.length
 · have hg:s.apps.getD i default=s.apps[i]:=by simp [hn]
   have hqi:=(h.ar _ (List.getElem_mem hn)).queue
   have hai:=(h.ar _ (List.getElem_mem hn)).asks
   simp -implicitDefEqProofs(disch:=first|decide|omega)only[↓aA,aC,aB,simprocAttr,bB,a9,hg]
   repeat' first
    | exact ⟨_,_,rfl⟩
    | (refine ⟨(i+1,va,vb),?_,by simp only;omega,by simp only;omega⟩;(refine Sub.of0 [some 0,some 1,some 2] rfl ?_ rfl ?_<;>repeat' first|trivial|rfl|exact .inl rfl|exact .inr ⟨rfl,_,_,rfl⟩|(simp;done)|(simp;omega)|refine And.intro ?_ ?_);done)
    | (refine ⟨(i+1,u,v),?_,by simp only;omega,by simp only;omega⟩;(refine Sub.of0 [some 0,some 1,some 2] rfl ?_ rfl ?_<;>repeat' first|trivial|rfl|exact .inl rfl|exact .inr ⟨rfl,_,_,rfl⟩|(simp;done)|(simp;omega)|refine And.intro ?_ ?_);done)
    | with_reducible apply And.intro
    | omega
    | (refine aE (aI.of (aM:=false) (fX _) (.refl rfl) rfl (by simp)) ?_;simp -implicitDefEqProofs(disch:=first|decide|omega)only[↓aA,aC,aB,simprocAttr,bB,a9,hg])
    | (refine bP (fX _) rfl rfl ?_;simp -implicitDefEqProofs(disch:=first|decide|omega)only[↓aA,aC,aB,simprocAttr,bB,a9,hg])
    | (refine aH (aLi _ _ hqi) rfl (by rintro _ ⟨_,rfl⟩;rfl) ?_;rintro _ ⟨bb,rfl⟩;simp -implicitDefEqProofs(disch:=first|decide|omega)only[↓aA,aC,aB,simprocAttr,bB,a9,hg])
    | (refine a7 (aLi _ _ hqi) rfl (by rintro _ ⟨_,rfl⟩;rfl) ?_;rintro _ ⟨bb,rfl⟩;simp -implicitDefEqProofs(disch:=first|decide|omega)only[↓aA,aC,aB,simprocAttr,bB,a9,hg])
    | (refine aH (aUF _ hai _) rfl (by rintro _ ⟨_,_,rfl⟩;rfl) ?_;rintro _ ⟨va,vb,rfl⟩;simp -implicitDefEqProofs(disch:=first|decide|omega)only[↓aA,aC,aB,simprocAttr,bB,a9,hg])
    | (refine a7 (aUF _ hai _) rfl (by rintro _ ⟨_,_,rfl⟩;rfl) ?_;rintro _ ⟨va,vb,rfl⟩;simp -implicitDefEqProofs(disch:=first|decide|omega)only[↓aA,aC,aB,simprocAttr,bB,a9,hg])
    | (refine aH (q22 _ _ _ _) rfl (by rintro _ ⟨_,_,rfl⟩;rfl) ?_;rintro _ ⟨va,vb,rfl⟩;simp -implicitDefEqProofs(disch:=first|decide|omega)only[↓aA,aC,aB,simprocAttr,bB,a9,hg])
    | (refine a7 (q22 _ _ _ _) rfl (by rintro _ ⟨_,_,rfl⟩;rfl) ?_;rintro _ ⟨va,vb,rfl⟩;simp -implicitDefEqProofs(disch:=first|decide|omega)only[↓aA,aC,aB,simprocAttr,bB,a9,hg])
    | (refine bC (fun hb=>?_) (fun hb=>?_)<;>simp -implicitDefEqProofs(disch:=first|decide|omega)only[↓aA,aC,aB,simprocAttr,hb,bB,a9,hg])
    | (refine a8 (fun hb=>?_) (fun hb=>?_)<;>simp -implicitDefEqProofs(disch:=first|decide|omega)only[↓aA,aC,aB,simprocAttr,hb,bB,a9,hg])
 · simp -implicitDefEqProofs(disch:=first|decide|omega)only[↓aA,aC,aB,simprocAttr,bB,a9]
   repeat' first
    | exact ⟨_,_,rfl⟩
    | with_reducible apply And.intro
    | omega
theorem aYB {s:Sta} (h:ST s) (c:bD):aW Tryz.prog 199 [.agg (stC s),bY c] [] fun y _=>qI y:=by
 have k1:=h.k
 have k2:=h.n
 have k3:=h.a
 have k4:=h.p
 refine aK aV8 (by simp) ?_
 unfold aO8
 refine Yc ?_
 unfold aC4
 refine Ya ?_
 refine aF (σ:=Nat×Int) (fun z=>⟨[(2,.ref 0 0 0),(3,.ref 1 0 0),(5,.int .i64 z.2),(6,.int .i64 (z.1:Int))],[.box (stC s),.box (bY c).cells]⟩) (fun z=>z.1<=s.conts.length) (fun z=>s.conts.length-z.1) (0,0) ?_ (by simp) ?_
 · exact Sub.ofS [some 0,some 1]
 rintro ⟨i,n⟩ hi
 simp only at hi
 unfold aC3
 by_cases hn:i<s.conts.length
 · simp -implicitDefEqProofs(disch:=first|decide|omega)only[↓aA,aC,aB,simprocAttr,bB,aY]
   repeat' first
    | exact ⟨_,rfl⟩
    | (refine ⟨(i+1,IntKind.i64.wrap (n+(s.conts.getD i default).mem)),?_,by simp only;omega,by simp only;omega⟩;(refine Sub.of0 [some 0,some 1] rfl ?_ rfl ?_<;>repeat' first|trivial|rfl|exact .inl rfl|exact .inr ⟨rfl,_,_,rfl⟩|(simp;done)|(simp;omega)|refine And.intro ?_ ?_);done)
    | (refine ⟨(i+1,n),?_,by simp only;omega,by simp only;omega⟩;(refine Sub.of0 [some 0,some 1] rfl ?_ rfl ?_<;>repeat' first|trivial|rfl|exact .inl rfl|exact .inr ⟨rfl,_,_,rfl⟩|(simp;done)|(simp;omega)|refine And.intro ?_ ?_);done)
    | with_reducible apply And.intro
    | omega
    | (refine bC (fun hb=>?_) (fun hb=>?_)<;>simp -implicitDefEqProofs(disch:=first|decide|omega)only[↓aA,aC,aB,simprocAttr,hb,bB,aY])
    | (refine a8 (fun hb=>?_) (fun hb=>?_)<;>simp -implicitDefEqProofs(disch:=first|decide|omega)only[↓aA,aC,aB,simprocAttr,hb,bB,aY])
 · simp -implicitDefEqProofs(disch:=first|decide|omega)only[↓aA,aC,aB,simprocAttr,bB,aY]
   repeat' first
    | exact ⟨_,rfl⟩
    | with_reducible apply And.intro
    | omega
theorem pV {s:Sta} (h:ST s) (p:List UInt8) (hp:p.length<=60) (k:Int):aW Tryz.prog 197 [.agg (stC s),.str p,.int .i64 k] [] fun y _=>qV y:=by
 refine aO aRQ (by simp) ?_
 unfold aPa
 simp -implicitDefEqProofs(disch:=first|decide|omega)only[↓aA,aC,aB,simprocAttr,bB]
 repeat' first
  | exact ⟨_,_,rfl⟩
  | with_reducible apply And.intro
  | omega
  | (refine aH (aLj h p hp k _ _) rfl (by rintro _ ⟨_,_,rfl⟩;rfl) ?_;rintro _ ⟨va,vb,rfl⟩;simp -implicitDefEqProofs(disch:=first|decide|omega)only[↓aA,aC,aB,simprocAttr,bB])
  | (refine a7 (aLj h p hp k _ _) rfl (by rintro _ ⟨_,_,rfl⟩;rfl) ?_;rintro _ ⟨va,vb,rfl⟩;simp -implicitDefEqProofs(disch:=first|decide|omega)only[↓aA,aC,aB,simprocAttr,bB])
  | (refine bC (fun hb=>?_) (fun hb=>?_)<;>simp -implicitDefEqProofs(disch:=first|decide|omega)only[↓aA,aC,aB,simprocAttr,hb,bB])
  | (refine a8 (fun hb=>?_) (fun hb=>?_)<;>simp -implicitDefEqProofs(disch:=first|decide|omega)only[↓aA,aC,aB,simprocAttr,hb,bB])
theorem aUI {s:Sta} (h:ST s) (p:List UInt8) (hp:p.length<=60) (k w:Int):aW Tryz.prog 228 [.agg (stC s),.str p,.int .i64 k,.int .i64 w] [] fun y _=>qV y:=by
 refine aO aRH (by simp) ?_
 unfold aOM
 simp -implicitDefEqProofs(disch:=first|decide|omega)only[↓aA,aC,aB,simprocAttr,bB]
 repeat' first
  | exact ⟨_,_,rfl⟩
  | with_reducible apply And.intro
  | omega
  | (refine aH (aLj h p hp k _ _) rfl (by rintro _ ⟨_,_,rfl⟩;rfl) ?_;rintro _ ⟨va,vb,rfl⟩;simp -implicitDefEqProofs(disch:=first|decide|omega)only[↓aA,aC,aB,simprocAttr,bB])
  | (refine a7 (aLj h p hp k _ _) rfl (by rintro _ ⟨_,_,rfl⟩;rfl) ?_;rintro _ ⟨va,vb,rfl⟩;simp -implicitDefEqProofs(disch:=first|decide|omega)only[↓aA,aC,aB,simprocAttr,bB])
  | (refine bC (fun hb=>?_) (fun hb=>?_)<;>simp -implicitDefEqProofs(disch:=first|decide|omega)only[↓aA,aC,aB,simprocAttr,hb,bB])
  | (refine a8 (fun hb=>?_) (fun hb=>?_)<;>simp -implicitDefEqProofs(disch:=first|decide|omega)only[↓aA,aC,aB,simprocAttr,hb,bB])
theorem aG8 {s:Sta} (h:ST s) (c:bD):aW Tryz.prog 198 [.agg (stC s),bY c] [] fun y _=>∃ p:List UInt8,y= .str p/\p.length<=60:=by
 have hq:=wL h c.app
 refine aK aV9 (by simp) ?_
 unfold aO9
 simp -implicitDefEqProofs(disch:=first|decide|omega)only[↓aA,aC,aB,simprocAttr,bB,aY,a9]
 repeat' first
  | exact ⟨_,rfl,hq⟩
  | (refine aE (aI.of (aM:=false) (aA0 h _) (.refl rfl) rfl (by simp)) ?_;simp -implicitDefEqProofs(disch:=first|decide|omega)only[↓aA,aC,aB,simprocAttr,bB,aY,a9])
  | with_reducible apply And.intro
  | omega
  | (refine bC (fun hb=>?_) (fun hb=>?_)<;>simp -implicitDefEqProofs(disch:=first|decide|omega)only[↓aA,aC,aB,simprocAttr,hb,bB,aY,a9])
  | (refine a8 (fun hb=>?_) (fun hb=>?_)<;>simp -implicitDefEqProofs(disch:=first|decide|omega)only[↓aA,aC,aB,simprocAttr,hb,bB,aY,a9])
theorem n7 {qs:List Queue} {p:List UInt8} {y:Queue} (h:fT p qs=some y):y∈qs/\y.path=p:=⟨List.mem_of_find?_eq_some h,by simpa using List.find?_some h⟩
set_option maxHeartbeats 1000000 in
theorem aLh (s:Sta) (h:ST s) (hq:QA s.labels s.qs) (p:List UInt8) (hp:p.length<=60) (k:Int) (b:Bool):aW Tryz.prog 240 [.agg (stC s),.str p,.int .i64 k,.bool b] [] fun y _=>∃ u v:Int,y= .agg [.int .i64 u,.int .i64 v]:=by
 have hz:QZ s.qs:=h.c.qz
 have l3:=h.c.l3
 refine aO aRC (by simp) ?_
 unfold aOA
 have c132:=kR s.labels s.qs hz p
 unfold dT bN at c132
 refine Yb ?_
 refine aE (aI.of (aM:=false) (c132) (.refl rfl) rfl (by simp)) ?_
 cases hf:fT p s.qs with
 | none =>
   simp -implicitDefEqProofs(disch:=first|decide|omega)only[↓aA,aC,aB,simprocAttr,bB,bW,Option.isSome_none,Option.getD_none]
   exact ⟨0,0,rfl⟩
 | some q =>
   obtain ⟨hqm,hqp⟩:=n7 hf
   by_cases h1:k<0
   · simp -implicitDefEqProofs(disch:=first|decide|omega)only[↓aA,aC,aB,simprocAttr,bB,bW,Option.isSome_some,Option.getD_some]
     exact ⟨0,0,rfl⟩
   by_cases h2:k>=s.labels.length
   · simp -implicitDefEqProofs(disch:=first|decide|omega)only[↓aA,aC,aB,simprocAttr,bB,bW,Option.isSome_some,Option.getD_some]
     exact ⟨0,0,rfl⟩
   simp -implicitDefEqProofs(disch:=first|decide|omega)only[↓aA,aC,aB,simprocAttr,bB,bW,Option.isSome_some,Option.getD_some]
   refine aH (aE8 h k) rfl (by rintro _ ⟨_,_,rfl⟩;rfl) ?_
   rintro _ ⟨a0,b0,rfl⟩
   simp -implicitDefEqProofs(disch:=first|decide|omega)only[↓aA,aC,aB,simprocAttr,bB]
   refine aE (aI.of (aM:=false) (zQ p (by omega)) (.refl rfl) rfl (by simp)) ?_
   have hul:=rH _ p (Nat.le_refl _)
   have hup:=hq.up q hqm
   rw [hqp] at hup
   generalize upL p=U at hul hup
   simp -implicitDefEqProofs(disch:=first|decide|omega)only[↓aA,aC,aB,simprocAttr,bB]
   unfold aCc
   simp -implicitDefEqProofs(disch:=first|decide|omega)only[↓aA,aC,aB,simprocAttr]
   refine aF (σ:=Int×Int×Int) (fun p=>⟨[(2,.int .i64 k),(3,.bool b),(4,.ref 0 0 0),(8,.ref 1 0 0),(11,.ref 2 0 0),(12,.sl false 1 (U.map .str)),(13,.int .i64 p.1)],[.box (stC s),.box [.int .i64 0,.int .i64 0],.box [.int .i64 p.2.1,.int .i64 p.2.2]]⟩) (fun p=> -2<=p.1/\p.1+2<=(U.length:Int)) (fun p=>(p.1+2).toNat) ((U.length:Int)-2,a0,b0) ?_ ⟨by simp only;omega,by simp only;omega⟩ ?_
   · exact Sub.ofS [some 0,some 1,some 3]
   rintro ⟨n,u,v⟩ ⟨hn1,hn2⟩
   simp only at hn1 hn2
   unfold aCb
   by_cases hn:0<=n
   · obtain ⟨m,rfl⟩:∃ m:Nat,n=(m:Int):=⟨n.toNat,by omega⟩
     have hmU:m<U.length:=by omega
     have hg:U.getD m default=U[m]:=by simp [hmU]
     obtain ⟨y,hy,hfy⟩:=hup U[m] (List.getElem_mem hmU)
     have hyc:=hq.caps y hy
     have c132:=kR s.labels s.qs hz U[m]
     unfold dT bN at c132
     rw [hfy] at c132
     obtain ⟨j,rfl⟩:∃ j:Nat,k=(j:Int):=⟨k.toNat,by omega⟩
     cases b
     · simp -implicitDefEqProofs(disch:=first|decide|omega)only[↓aA,aC,aB,simprocAttr,bB,hg]
       repeat refine And.intro (by omega) ?_
       refine bP (c132) rfl rfl ?_
       simp -implicitDefEqProofs(disch:=first|decide|omega)only[↓aA,aC,aB,simprocAttr,bB,bW,kH,Option.isSome_some,Option.getD_some]
       repeat refine And.intro (by omega) ?_
       refine aH (aLg u v _) rfl (by rintro _ ⟨_,_,_,rfl⟩;rfl) ?_
       rintro _ ⟨u2,v2,c,rfl⟩
       simp -implicitDefEqProofs(disch:=first|decide|omega)only[↓aA,aC,aB,simprocAttr,bB]
       repeat refine And.intro (by omega) ?_
       refine ⟨((m:Int)-1,u2,v2),?_,⟨by simp only;omega,by simp only;omega⟩,by simp only;omega⟩
       exact Sub.ofS [some 0,some 1,some 2]
     · simp -implicitDefEqProofs(disch:=first|decide|omega)only[↓aA,aC,aB,simprocAttr,bB,hg]
       repeat refine And.intro (by omega) ?_
       refine bP (c132) rfl rfl ?_
       simp -implicitDefEqProofs(disch:=first|decide|omega)only[↓aA,aC,aB,simprocAttr,bB,bW,kH,Option.isSome_some,Option.getD_some]
       repeat refine And.intro (by omega) ?_
       refine aH (aLg u v _) rfl (by rintro _ ⟨_,_,_,rfl⟩;rfl) ?_
       rintro _ ⟨u2,v2,c,rfl⟩
       simp -implicitDefEqProofs(disch:=first|decide|omega)only[↓aA,aC,aB,simprocAttr,bB]
       repeat refine And.intro (by omega) ?_
       refine ⟨((m:Int)-1,u2,v2),?_,⟨by simp only;omega,by simp only;omega⟩,by simp only;omega⟩
       exact Sub.ofS [some 0,some 1,some 2]
   · simp -implicitDefEqProofs(disch:=first|decide|omega)only[↓aA,aC,aB,simprocAttr,bB]
     exact ⟨u,v,rfl⟩
def aEq:CC:=(.seq (.seq (.reg [⟨(some 43),(.mv (.tmp 10)),none⟩,⟨(some 44),(.fad 6 (.tmp 3)),none⟩,⟨(some 45),(.ld 1 false (.tmp 44)),none⟩,⟨(some 46),(.lenl (.tmp 45)),none⟩,⟨(some 47),(.bin .lss (.tmp 43) (.tmp 46)),none⟩] false [] (some [2,3,4,6,9,10,47])) (.cond (.tmp 47) .skip (.exit 0))) (.seq (.block (some [2,3,4,6,9,10]) 1 (.seq (.seq (.reg [⟨(some 50),(.fad 6 (.tmp 3)),none⟩,⟨(some 51),(.ld 1 false (.tmp 50)),none⟩,⟨(some 52),(.mv (.tmp 10)),none⟩,⟨(some 53),(.iad 6 (.tmp 51) (.tmp 52)),none⟩,⟨(some 54),(.fad 0 (.tmp 53)),none⟩,⟨(some 55),(.ld 1 false (.tmp 54)),none⟩,⟨(some 56),(.fad 0 (.tmp 4)),none⟩,⟨(some 57),(.ld 1 false (.tmp 56)),none⟩,⟨(some 58),(.bin .eql (.tmp 55) (.tmp 57)),none⟩] true [] (some [2,3,4,6,9,10,58])) (.cond (.tmp 58) (.seq (.reg [⟨(some 59),(.ld 10 true (.tmp 3)),none⟩,⟨none,(.st 10 (.tmp 6) (.tmp 59)),none⟩,⟨(some 7),(.mv (.const (.int .i64 0))),none⟩,⟨(some 8),(.mv (.const (.int .i64 7))),none⟩] false [6,7,8] (some [6,7,8])) .ret) .skip)) (.seq (.reg [⟨(some 60),(.fad 6 (.tmp 3)),none⟩,⟨(some 61),(.ld 1 false (.tmp 60)),none⟩,⟨(some 62),(.mv (.tmp 10)),none⟩,⟨(some 63),(.iad 6 (.tmp 61) (.tmp 62)),none⟩,⟨(some 64),(.fad 0 (.tmp 63)),none⟩,⟨(some 65),(.ld 1 false (.tmp 64)),none⟩,⟨(some 66),(.fad 0 (.tmp 4)),none⟩,⟨(some 67),(.ld 1 false (.tmp 66)),none⟩,⟨(some 68),(.bin .lss (.tmp 65) (.tmp 67)),none⟩] true [] (some [2,3,4,6,9,10,68])) (.cond (.tmp 68) (.reg [⟨(some 69),(.mv (.tmp 10)),none⟩,⟨(some 70),(.bin .add (.tmp 69) (.const (.int .i64 1))),none⟩,⟨(some 9),(.mv (.tmp 70)),none⟩] false [] (some [2,3,4,6,9,10])) .skip)))) (.reg [⟨(some 48),(.mv (.tmp 10)),none⟩,⟨(some 49),(.bin .add (.tmp 48) (.const (.int .i64 1))),none⟩,⟨(some 10),(.mv (.tmp 49)),none⟩] false [] (some [2,3,4,6,9,10]))))
def aEr:CC:=(.block (some [2,3,4,6,9]) 0 (.loop 0 (some [2,3,4,6,9,10]) aEq))
def aP3:CC:=(.seq (.reg [⟨(some 3),(.bx (.tmp 0)),none⟩,⟨(some 4),(.bx (.tmp 1)),none⟩,⟨(some 6),(.al [.aD,.aD,.aD,.aD,.aD,.aD,.aD,(.int .i64 0),(.int .i64 0),(.int .i64 0)]),none⟩,⟨(some 7),(.mv (.const (.int .i64 0))),none⟩,⟨(some 8),(.mv (.const (.int .i64 0))),none⟩] false [] (some [2,3,4,6])) (.seq (.seq (.reg [⟨(some 14),(.fad 0 (.tmp 4)),none⟩,⟨(some 15),(.ld 1 false (.tmp 14)),none⟩,⟨(some 16),(.bin .lss (.tmp 15) (.const (.int .i64 0))),none⟩,⟨(some 17),(.mv (.tmp 16)),none⟩,⟨(some 18),(.fad 0 (.tmp 4)),(some (17,false))⟩,⟨(some 19),(.ld 1 false (.tmp 18)),(some (17,false))⟩,⟨(some 20),(.bin .gtr (.tmp 19) (.const (.int .i64 999))),(some (17,false))⟩,⟨(some 21),(.pick (.tmp 17) (.const (.bool true)) (.tmp 20)),none⟩,⟨(some 22),(.mv (.tmp 21)),none⟩,⟨(some 23),(.fad 1 (.tmp 4)),(some (22,false))⟩,⟨(some 24),(.ld 1 false (.tmp 23)),(some (22,false))⟩,⟨(some 25),(.bin .lss (.tmp 24) (.const (.int .i64 0))),(some (22,false))⟩,⟨(some 26),(.pick (.tmp 22) (.const (.bool true)) (.tmp 25)),none⟩,⟨(some 27),(.mv (.tmp 26)),none⟩,⟨(some 28),(.fad 1 (.tmp 4)),(some (27,false))⟩,⟨(some 29),(.ld 1 false (.tmp 28)),(some (27,false))⟩,⟨(some 30),(.fad 0 (.tmp 3)),(some (27,false))⟩,⟨(some 31),(.fad 0 (.tmp 30)),(some (27,false))⟩,⟨(some 32),(.ld 1 false (.tmp 31)),(some (27,false))⟩,⟨(some 33),(.lenl (.tmp 32)),(some (27,false))⟩,⟨(some 34),(.bin .geq (.tmp 29) (.tmp 33)),(some (27,false))⟩,⟨(some 35),(.pick (.tmp 27) (.const (.bool true)) (.tmp 34)),none⟩,⟨(some 36),(.mv (.tmp 35)),none⟩,⟨(some 37),(.fad 4 (.tmp 4)),(some (36,false))⟩,⟨(some 38),(.ld 2 true (.tmp 37)),(some (36,false))⟩,⟨(some 39),(.bld [(.int .i64 0),(.int .i64 0)] []),(some (36,false))⟩,⟨(some 40),(.seq false [(.int .i64 0),(.int .i64 0)] (.tmp 38) (.tmp 39)),(some (36,false))⟩,⟨(some 41),(.pick (.tmp 36) (.const (.bool true)) (.tmp 40)),none⟩] false [] (some [2,3,4,6,41])) (.cond (.tmp 41) (.seq (.reg [⟨(some 42),(.ld 10 true (.tmp 3)),none⟩,⟨none,(.st 10 (.tmp 6) (.tmp 42)),none⟩,⟨(some 7),(.mv (.const (.int .i64 0))),none⟩,⟨(some 8),(.mv (.const (.int .i64 1))),none⟩] false [6,7,8] (some [6,7,8])) .ret) .skip)) (.seq (.reg [⟨(some 9),(.mv (.const (.int .i64 0))),none⟩] false [] (some [2,3,4,6,9])) (.seq (.seq (.reg [⟨(some 10),(.mv (.const (.int .i64 0))),none⟩] false [] (some [2,3,4,6,9,10])) aEr) (.seq (.seq (.reg [⟨(some 71),(.fad 6 (.tmp 3)),none⟩,⟨(some 72),(.ld 1 false (.tmp 71)),none⟩,⟨(some 73),(.lenl (.tmp 72)),none⟩,⟨(some 74),(.bin .geq (.tmp 73) (.const (.int .i64 12))),none⟩] false [] (some [2,3,4,6,9,74])) (.cond (.tmp 74) (.seq (.reg [⟨(some 75),(.ld 10 true (.tmp 3)),none⟩,⟨none,(.st 10 (.tmp 6) (.tmp 75)),none⟩,⟨(some 7),(.mv (.const (.int .i64 0))),none⟩,⟨(some 8),(.mv (.const (.int .i64 4))),none⟩] false [6,7,8] (some [6,7,8])) .ret) .skip)) (.seq (.seq (.reg [⟨(some 76),(.fad 2 (.tmp 4)),none⟩,⟨(some 77),(.ld 1 false (.tmp 76)),none⟩,⟨(some 78),(.fad 7 (.tmp 3)),none⟩,⟨(some 79),(.ld 1 false (.tmp 78)),none⟩,⟨(some 80),(.bin .lss (.tmp 77) (.tmp 79)),none⟩] false [] (some [2,3,4,6,9,80])) (.cond (.tmp 80) (.seq (.reg [⟨(some 81),(.ld 10 true (.tmp 3)),none⟩,⟨none,(.st 10 (.tmp 6) (.tmp 81)),none⟩,⟨(some 7),(.mv (.const (.int .i64 0))),none⟩,⟨(some 8),(.mv (.const (.int .i64 15))),none⟩] false [6,7,8] (some [6,7,8])) .ret) .skip)) (.seq (.sch (.fin [⟨(some 83),(.fad 6 (.tmp 3)),none⟩,⟨(some 86),(.fad 1 (.tmp 4)),none⟩,⟨(some 90),(.mv (.tmp 2)),none⟩,⟨(some 84),(.ld 1 false (.tmp 83)),none⟩,⟨(some 85),(.ld 10 true (.tmp 3)),none⟩,⟨(some 87),(.ld 1 false (.tmp 86)),none⟩,⟨(some 89),(.ld 6 true (.tmp 4)),none⟩,⟨(some 88),(.calf 159 [(.tmp 85),(.tmp 87)]),none⟩,⟨(some 91),(.calf 158 [(.tmp 84),(.tmp 88),(.tmp 89),(.tmp 90)]),none⟩,⟨(some 82),(.mv (.tmp 91)),none⟩,⟨(some 92),(.ext 0 (.tmp 82)),none⟩,⟨(some 93),(.ext 1 (.tmp 82)),none⟩,⟨(some 11),(.mv (.tmp 92)),none⟩,⟨(some 12),(.mv (.tmp 93)),none⟩]) [83,86,90,82,92,93,11] [] (some [2,3,4,6,9,11,12])) (.seq (.seq (.reg [⟨(some 94),(.mv (.tmp 12)),none⟩,⟨(some 95),(.bin .neq (.tmp 94) (.const (.int .i64 0))),none⟩] false [] (some [2,3,4,6,9,11,12,95])) (.cond (.tmp 95) (.seq (.reg [⟨(some 96),(.ld 10 true (.tmp 3)),none⟩,⟨(some 97),(.mv (.tmp 12)),none⟩,⟨none,(.st 10 (.tmp 6) (.tmp 96)),none⟩,⟨(some 7),(.mv (.const (.int .i64 0))),none⟩,⟨(some 8),(.mv (.tmp 97)),none⟩] false [6,7,8] (some [6,7,8])) .ret) .skip)) (.seq (.reg [⟨(some 98),(.bls 6 0 (.agg [(.int .i64 0),(.int .i64 0),(.int .i64 0),(.int .i64 0),(.int .i64 0),(.int .i64 0)]) []),none⟩,⟨(some 99),(.fad 6 (.tmp 3)),none⟩,⟨(some 100),(.ld 1 false (.tmp 99)),none⟩,⟨(some 101),(.mv (.tmp 9)),none⟩,⟨(some 102),(.slc 6 (.tmp 100) none (some (.tmp 101))),none⟩,⟨(some 103),(.app 6 48 (.tmp 98) (.tmp 102)),none⟩,⟨(some 13),(.mv (.tmp 103)),none⟩] false [] (some [2,3,4,6,9,11,13])) (.seq (.reg [⟨(some 104),(.mv (.tmp 13)),none⟩,⟨(some 105),(.fad 0 (.tmp 4)),none⟩,⟨(some 106),(.ld 1 false (.tmp 105)),none⟩,⟨(some 107),(.fad 1 (.tmp 4)),none⟩,⟨(some 108),(.ld 1 false (.tmp 107)),none⟩,⟨(some 109),(.mv (.tmp 11)),none⟩,⟨(some 110),(.mv (.tmp 11)),none⟩,⟨(some 111),(.mv (.tmp 2)),none⟩,⟨(some 112),(.bin .add (.tmp 110) (.tmp 111)),none⟩,⟨(some 113),(.fad 4 (.tmp 4)),none⟩,⟨(some 114),(.ld 2 true (.tmp 113)),none⟩,⟨(some 115),(.bld [(.int .i64 0),(.int .i64 0),(.int .i64 0),(.int .i64 0),(.int .i64 0),(.int .i64 0)] [(0,(1,(.tmp 106))),(1,(1,(.tmp 108))),(2,(1,(.tmp 109))),(3,(1,(.tmp 112))),(4,(2,(.tmp 114)))]),none⟩,⟨(some 116),(.bls 6 1 (.agg [(.int .i64 0),(.int .i64 0),(.int .i64 0),(.int .i64 0),(.int .i64 0),(.int .i64 0)]) [(0,(.tmp 115))]),none⟩,⟨(some 117),(.app 6 48 (.tmp 104) (.tmp 116)),none⟩,⟨(some 13),(.mv (.tmp 117)),none⟩] false [] (some [3,6,9,11,13])) (.seq (.cat (.reg [⟨(some 118),(.mv (.tmp 13)),none⟩,⟨(some 119),(.fad 6 (.tmp 3)),none⟩,⟨(some 120),(.ld 1 false (.tmp 119)),none⟩,⟨(some 121),(.mv (.tmp 9)),none⟩,⟨(some 122),(.slc 6 (.tmp 120) (some (.tmp 121)) none),none⟩,⟨(some 123),(.app 6 48 (.tmp 118) (.tmp 122)),none⟩,⟨(some 124),(.fad 6 (.tmp 3)),none⟩] false [123] (some [3,6,11,123,124])) (.reg [⟨none,(.st 1 (.tmp 124) (.tmp 123)),none⟩] false [] (some [3,6,11]))) (.seq (.reg [⟨(some 125),(.ld 10 true (.tmp 3)),none⟩,⟨(some 126),(.mv (.tmp 11)),none⟩,⟨none,(.st 10 (.tmp 6) (.tmp 125)),none⟩,⟨(some 7),(.mv (.tmp 126)),none⟩,⟨(some 8),(.mv (.const (.int .i64 0))),none⟩] false [6,7,8] (some [6,7,8])) .ret))))))))))))
theorem aR8:aX Tryz.prog 105 aP3 [.ce 6 41 10 true,.tm 7,.tm 8] 127:=aX.of Tryz.f105 Tryz.func105 rfl ⟨by kernel_rfl,trivial⟩
def a1I:{c:CC // aJ Tryz.prog 106=c}:=⟨_,by conv=>lhs;reduce⟩
def aT9:{c:CC // bA Tryz.prog 106 {} a1I.1 []=c}:=⟨_,by conv=>lhs;reduce⟩
def aEo:CC:=(fun (c:CC) (_:(aT9.1.aV [1,1,0,1,0,0])=c)=>c) _ (by conv=>lhs;reduce)
def aEp:CC:=(fun (c:CC->CC) (_:(fun a0=>(aT9.1.aV [1,1,0,1]).aU [0,0] a0)=c)=>c) _ (by conv=>lhs;reduce) aEo
def aP2:CC:=(fun (c:CC->CC) (_:(fun a0=>(aT9.1).aU [1,1,0,1] a0)=c)=>c) _ (by conv=>lhs;reduce) aEp
theorem aR7:aX Tryz.prog 106 aP2 [.ce 4 41 10 true,.tm 5] 41:=aX.of Tryz.f106 Tryz.func106 rfl ⟨by kernel_rfl,trivial⟩
def a09:{c:CC // aJ Tryz.prog 158=c}:=⟨_,by conv=>lhs;reduce⟩
def aTX:{c:CC // bA Tryz.prog 158 {} a09.1 []=c}:=⟨_,by conv=>lhs;reduce⟩
def aDJ:CC:=(fun (c:CC) (_:(aTX.1.aV [1,1,1,0,1,0,0])=c)=>c) _ (by conv=>lhs;reduce)
def aDK:CC:=(fun (c:CC->CC) (_:(fun a0=>(aTX.1.aV [1,1,1,0,1]).aU [0,0] a0)=c)=>c) _ (by conv=>lhs;reduce) aDJ
def aPv:CC:=(fun (c:CC->CC) (_:(fun a0=>(aTX.1).aU [1,1,1,0,1] a0)=c)=>c) _ (by conv=>lhs;reduce) aDK
theorem aWm:aZ Tryz.prog 158 aPv [8,9] 105:=aZ.of Tryz.f158 Tryz.func158 rfl
def a0W:{c:CC // aJ Tryz.prog 183=c}:=⟨_,by conv=>lhs;reduce⟩
def aZG:{c:CC // bA Tryz.prog 183 {} a0W.1 []=c}:=⟨_,by conv=>lhs;reduce⟩
def aPi:CC:=(fun (c:CC) (_:(aZG.1)=c)=>c) _ (by conv=>lhs;reduce)
theorem aWd:aZ Tryz.prog 183 aPi [2] 9:=aZ.of Tryz.f183 Tryz.func183 rfl
end Go.Proofs.YtakemdamegfcfaaGreat
