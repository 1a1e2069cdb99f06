/- A part of a proof: what functions of the program compute. No condition. -/
import Derived.Test.YtakemdamegfcfaaGreatT17
import Derived.Test.YtakemdamegfcfaaGreatProg
import Derived.KernelRfl
import Derived.Test.YtakemdamegfcfaaGreatT6
import Derived.Test.YtakemdamegfcfaaGreatT10
set_option linter.unusedSimpArgs false
set_option linter.unusedVariables false
set_option maxHeartbeats 16000000
set_option maxRecDepth 100000
namespace Go.Proofs.YtakemdamegfcfaaGreat
open Go Go.Ab
theorem aLe (a b c d:Int):aW Tryz.prog 250 [.agg [.int .i64 a,.int .i64 b],.agg [.int .i64 c,.int .i64 d]] [] fun y _=>qI y:=by
 refine aK aVG (by simp) ?_
 unfold aOq
 simp -implicitDefEqProofs(disch:=first|decide|omega)only[↓aA,aC,aB,simprocAttr,bB]
 repeat' first
  | exact ⟨_,rfl⟩
  | with_reducible apply And.intro
  | omega
  | (refine aH (aUA _ _) rfl (by rintro _ ⟨_,_,rfl⟩;rfl) ?_;rintro _ ⟨na,nb,rfl⟩;simp -implicitDefEqProofs(disch:=first|decide|omega)only[↓aA,aC,aB,simprocAttr,bB])
  | (refine a7 (aUA _ _) rfl (by rintro _ ⟨_,_,rfl⟩;rfl) ?_;rintro _ ⟨na,nb,rfl⟩;simp -implicitDefEqProofs(disch:=first|decide|omega)only[↓aA,aC,aB,simprocAttr,bB])
  | (refine bC (fun hb=>?_) (fun hb=>?_)<;>simp -implicitDefEqProofs(disch:=first|decide|omega)only[↓aA,aC,aB,simprocAttr,hb,bB])
  | (refine a8 (fun hb=>?_) (fun hb=>?_)<;>simp -implicitDefEqProofs(disch:=first|decide|omega)only[↓aA,aC,aB,simprocAttr,hb,bB])
theorem aUB (a b c d:Int):aW Tryz.prog 251 [.agg [.int .i64 a,.int .i64 b],.agg [.int .i64 c,.int .i64 d]] [] fun y _=>qV y:=by
 refine aO aRz (by simp) ?_
 unfold aOo
 simp -implicitDefEqProofs(disch:=first|decide|omega)only[↓aA,aC,aB,simprocAttr,bB]
 repeat' first
  | exact ⟨_,_,rfl⟩
  | with_reducible apply And.intro
  | omega
  | (refine aH (aLe _ _ _ _) rfl (by rintro _ ⟨_,rfl⟩;rfl) ?_;rintro _ ⟨nn,rfl⟩;simp -implicitDefEqProofs(disch:=first|decide|omega)only[↓aA,aC,aB,simprocAttr,bB])
  | (refine a7 (aLe _ _ _ _) rfl (by rintro _ ⟨_,rfl⟩;rfl) ?_;rintro _ ⟨nn,rfl⟩;simp -implicitDefEqProofs(disch:=first|decide|omega)only[↓aA,aC,aB,simprocAttr,bB])
  | (refine bC (fun hb=>?_) (fun hb=>?_)<;>simp -implicitDefEqProofs(disch:=first|decide|omega)only[↓aA,aC,aB,simprocAttr,hb,bB])
  | (refine a8 (fun hb=>?_) (fun hb=>?_)<;>simp -implicitDefEqProofs(disch:=first|decide|omega)only[↓aA,aC,aB,simprocAttr,hb,bB])
theorem aUC (a b c d e f g i:Int):aW Tryz.prog 249 [.agg [.int .i64 a,.int .i64 b],.agg [.int .i64 c,.int .i64 d],.agg [.int .i64 e,.int .i64 f],.agg [.int .i64 g,.int .i64 i]] [] fun y _=>qI y:=by
 refine aK aVH (by simp) ?_
 unfold aOr
 simp -implicitDefEqProofs(disch:=first|decide|omega)only[↓aA,aC,aB,simprocAttr,bB]
 repeat' first
  | exact ⟨_,rfl⟩
  | with_reducible apply And.intro
  | omega
  | (refine aH (aLf _ _) rfl (by rintro _ ⟨_,rfl⟩;rfl) ?_;rintro _ ⟨bb,rfl⟩;simp -implicitDefEqProofs(disch:=first|decide|omega)only[↓aA,aC,aB,simprocAttr,bB])
  | (refine a7 (aLf _ _) rfl (by rintro _ ⟨_,rfl⟩;rfl) ?_;rintro _ ⟨bb,rfl⟩;simp -implicitDefEqProofs(disch:=first|decide|omega)only[↓aA,aC,aB,simprocAttr,bB])
  | (refine aH (aUB _ _ _ _) rfl (by rintro _ ⟨_,_,rfl⟩;rfl) ?_;rintro _ ⟨va,vb,rfl⟩;simp -implicitDefEqProofs(disch:=first|decide|omega)only[↓aA,aC,aB,simprocAttr,bB])
  | (refine a7 (aUB _ _ _ _) rfl (by rintro _ ⟨_,_,rfl⟩;rfl) ?_;rintro _ ⟨va,vb,rfl⟩;simp -implicitDefEqProofs(disch:=first|decide|omega)only[↓aA,aC,aB,simprocAttr,bB])
  | (refine aH (aLe _ _ _ _) rfl (by rintro _ ⟨_,rfl⟩;rfl) ?_;rintro _ ⟨nn,rfl⟩;simp -implicitDefEqProofs(disch:=first|decide|omega)only[↓aA,aC,aB,simprocAttr,bB])
  | (refine a7 (aLe _ _ _ _) rfl (by rintro _ ⟨_,rfl⟩;rfl) ?_;rintro _ ⟨nn,rfl⟩;simp -implicitDefEqProofs(disch:=first|decide|omega)only[↓aA,aC,aB,simprocAttr,bB])
  | (refine bC (fun hb=>?_) (fun hb=>?_)<;>simp -implicitDefEqProofs(disch:=first|decide|omega)only[↓aA,aC,aB,simprocAttr,hb,bB])
  | (refine a8 (fun hb=>?_) (fun hb=>?_)<;>simp -implicitDefEqProofs(disch:=first|decide|omega)only[↓aA,aC,aB,simprocAttr,hb,bB])
theorem uI {s:Sta} (h:ST s) (hq:QA s.labels s.qs) (p:List UInt8) (hp:p.length<=60) (k:Int):aW Tryz.prog 222 [.agg (stC s),.str p,.int .i64 k] [] fun y _=>qV y:=by
 refine aO aRJ (by simp) ?_
 unfold aOQ
 simp -implicitDefEqProofs(disch:=first|decide|omega)only[↓aA,aC,aB,simprocAttr,bB]
 repeat' first
  | exact ⟨_,_,rfl⟩
  | with_reducible apply And.intro
  | omega
  | (refine aH (aLh s h hq p hp k _) rfl (by rintro _ ⟨_,_,rfl⟩;rfl) ?_;rintro _ ⟨va,vb,rfl⟩;simp -implicitDefEqProofs(disch:=first|decide|omega)only[↓aA,aC,aB,simprocAttr,bB])
  | (refine a7 (aLh s h hq p hp k _) rfl (by rintro _ ⟨_,_,rfl⟩;rfl) ?_;rintro _ ⟨va,vb,rfl⟩;simp -implicitDefEqProofs(disch:=first|decide|omega)only[↓aA,aC,aB,simprocAttr,bB])
  | (refine bC (fun hb=>?_) (fun hb=>?_)<;>simp -implicitDefEqProofs(disch:=first|decide|omega)only[↓aA,aC,aB,simprocAttr,hb,bB])
  | (refine a8 (fun hb=>?_) (fun hb=>?_)<;>simp -implicitDefEqProofs(disch:=first|decide|omega)only[↓aA,aC,aB,simprocAttr,hb,bB])
theorem aQH {s:Sta} (h:ST s) (hq:QA s.labels s.qs) (p:List UInt8) (hp:p.length<=60) (k:Int):aW Tryz.prog 231 [.agg (stC s),.str p,.int .i64 k] [] fun y _=>qV y:=by
 refine aO aRF (by simp) ?_
 unfold aOJ
 simp -implicitDefEqProofs(disch:=first|decide|omega)only[↓aA,aC,aB,simprocAttr,bB]
 repeat' first
  | exact ⟨_,_,rfl⟩
  | with_reducible apply And.intro
  | omega
  | (refine aH (aLh s h hq p hp k _) rfl (by rintro _ ⟨_,_,rfl⟩;rfl) ?_;rintro _ ⟨va,vb,rfl⟩;simp -implicitDefEqProofs(disch:=first|decide|omega)only[↓aA,aC,aB,simprocAttr,bB])
  | (refine a7 (aLh s h hq p hp k _) rfl (by rintro _ ⟨_,_,rfl⟩;rfl) ?_;rintro _ ⟨va,vb,rfl⟩;simp -implicitDefEqProofs(disch:=first|decide|omega)only[↓aA,aC,aB,simprocAttr,bB])
  | (refine bC (fun hb=>?_) (fun hb=>?_)<;>simp -implicitDefEqProofs(disch:=first|decide|omega)only[↓aA,aC,aB,simprocAttr,hb,bB])
  | (refine a8 (fun hb=>?_) (fun hb=>?_)<;>simp -implicitDefEqProofs(disch:=first|decide|omega)only[↓aA,aC,aB,simprocAttr,hb,bB])
theorem aYx {s:Sta} (h:ST s) (hq:QA s.labels s.qs) (p:List UInt8) (hp:p.length<=60) (r:List UInt8) (hr:r.length<=60) (k:Int):aW Tryz.prog 247 [.agg (stC s),.str p,.str r,.int .i64 k] [] fun y _=>qB y:=by
 refine aK aVJ (by simp) ?_
 unfold aOt
 simp -implicitDefEqProofs(disch:=first|decide|omega)only[↓aA,aC,aB,simprocAttr,bB]
 repeat' first
  | exact ⟨_,rfl⟩
  | with_reducible apply And.intro
  | omega
  | (refine aH (pV h p hp k) rfl (by rintro _ ⟨_,_,rfl⟩;rfl) ?_;rintro _ ⟨va,vb,rfl⟩;simp -implicitDefEqProofs(disch:=first|decide|omega)only[↓aA,aC,aB,simprocAttr,bB])
  | (refine a7 (pV h p hp k) rfl (by rintro _ ⟨_,_,rfl⟩;rfl) ?_;rintro _ ⟨va,vb,rfl⟩;simp -implicitDefEqProofs(disch:=first|decide|omega)only[↓aA,aC,aB,simprocAttr,bB])
  | (refine aH (pV h r hr k) rfl (by rintro _ ⟨_,_,rfl⟩;rfl) ?_;rintro _ ⟨va,vb,rfl⟩;simp -implicitDefEqProofs(disch:=first|decide|omega)only[↓aA,aC,aB,simprocAttr,bB])
  | (refine a7 (pV h r hr k) rfl (by rintro _ ⟨_,_,rfl⟩;rfl) ?_;rintro _ ⟨va,vb,rfl⟩;simp -implicitDefEqProofs(disch:=first|decide|omega)only[↓aA,aC,aB,simprocAttr,bB])
  | (refine aH (uI h hq p hp k) rfl (by rintro _ ⟨_,_,rfl⟩;rfl) ?_;rintro _ ⟨va,vb,rfl⟩;simp -implicitDefEqProofs(disch:=first|decide|omega)only[↓aA,aC,aB,simprocAttr,bB])
  | (refine a7 (uI h hq p hp k) rfl (by rintro _ ⟨_,_,rfl⟩;rfl) ?_;rintro _ ⟨va,vb,rfl⟩;simp -implicitDefEqProofs(disch:=first|decide|omega)only[↓aA,aC,aB,simprocAttr,bB])
  | (refine aH (uI h hq r hr k) rfl (by rintro _ ⟨_,_,rfl⟩;rfl) ?_;rintro _ ⟨va,vb,rfl⟩;simp -implicitDefEqProofs(disch:=first|decide|omega)only[↓aA,aC,aB,simprocAttr,bB])
  | (refine a7 (uI h hq r hr k) rfl (by rintro _ ⟨_,_,rfl⟩;rfl) ?_;rintro _ ⟨va,vb,rfl⟩;simp -implicitDefEqProofs(disch:=first|decide|omega)only[↓aA,aC,aB,simprocAttr,bB])
  | (refine aH (aUC _ _ _ _ _ _ _ _) rfl (by rintro _ ⟨_,rfl⟩;rfl) ?_;rintro _ ⟨nn,rfl⟩;simp -implicitDefEqProofs(disch:=first|decide|omega)only[↓aA,aC,aB,simprocAttr,bB])
  | (refine a7 (aUC _ _ _ _ _ _ _ _) rfl (by rintro _ ⟨_,rfl⟩;rfl) ?_;rintro _ ⟨nn,rfl⟩;simp -implicitDefEqProofs(disch:=first|decide|omega)only[↓aA,aC,aB,simprocAttr,bB])
  | (refine bC (fun hb=>?_) (fun hb=>?_)<;>simp -implicitDefEqProofs(disch:=first|decide|omega)only[↓aA,aC,aB,simprocAttr,hb,bB])
  | (refine a8 (fun hb=>?_) (fun hb=>?_)<;>simp -implicitDefEqProofs(disch:=first|decide|omega)only[↓aA,aC,aB,simprocAttr,hb,bB])
theorem aUH {s:Sta} (h:ST s) (hq:QA s.labels s.qs) (p:List UInt8) (hp:p.length<=60) (k:Int):aW Tryz.prog 229 [.agg (stC s),.str p,.int .i64 k] [] fun y _=>qV y:=by
 refine aO aRG (by simp) ?_
 unfold aOL
 have c132:=kR s.labels s.qs h.c.qz p
 unfold dT bN at c132
 refine Yb ?_
 refine aE (aI.of (aM:=false) (c132) (.refl rfl) rfl (by simp)) ?_
 cases hf:fT p s.qs<;>simp -implicitDefEqProofs(disch:=first|decide|omega)only[↓aA,aC,aB,simprocAttr,bB,bW,Option.isSome_none,Option.getD_none,Option.isSome_some,Option.getD_some]
 all_goals repeat' first
  | exact ⟨_,_,rfl⟩
  | with_reducible apply And.intro
  | omega
  | (refine aH (uI h hq p hp k) rfl (by rintro _ ⟨_,_,rfl⟩;rfl) ?_;rintro _ ⟨va,vb,rfl⟩;simp -implicitDefEqProofs(disch:=first|decide|omega)only[↓aA,aC,aB,simprocAttr,bB,bW])
  | (refine a7 (uI h hq p hp k) rfl (by rintro _ ⟨_,_,rfl⟩;rfl) ?_;rintro _ ⟨va,vb,rfl⟩;simp -implicitDefEqProofs(disch:=first|decide|omega)only[↓aA,aC,aB,simprocAttr,bB,bW])
  | (refine aH (aLg _ _ _) rfl (by rintro _ ⟨_,_,_,rfl⟩;rfl) ?_;rintro _ ⟨va,vb,nn,rfl⟩;simp -implicitDefEqProofs(disch:=first|decide|omega)only[↓aA,aC,aB,simprocAttr,bB,bW])
  | (refine a7 (aLg _ _ _) rfl (by rintro _ ⟨_,_,_,rfl⟩;rfl) ?_;rintro _ ⟨va,vb,nn,rfl⟩;simp -implicitDefEqProofs(disch:=first|decide|omega)only[↓aA,aC,aB,simprocAttr,bB,bW])
  | (refine bC (fun hb=>?_) (fun hb=>?_)<;>simp -implicitDefEqProofs(disch:=first|decide|omega)only[↓aA,aC,aB,simprocAttr,hb,bB,bW])
  | (refine a8 (fun hb=>?_) (fun hb=>?_)<;>simp -implicitDefEqProofs(disch:=first|decide|omega)only[↓aA,aC,aB,simprocAttr,hb,bB,bW])
theorem aUN {s:Sta} (h:ST s) (hq:QA s.labels s.qs) (p:List UInt8) (hp:p.length<=60) (x:Ask):aW Tryz.prog 213 [.agg (stC s),.str p,ASK x] [] fun y _=>qB y:=by
 refine aK aV1 (by simp) ?_
 unfold aOY
 simp -implicitDefEqProofs(disch:=first|decide|omega)only[↓aA,aC,aB,simprocAttr,bB,bF]
 repeat' first
  | exact ⟨_,rfl⟩
  | with_reducible apply And.intro
  | omega
  | (refine aH (pV h p hp _) rfl (by rintro _ ⟨_,_,rfl⟩;rfl) ?_;rintro _ ⟨va,vb,rfl⟩;simp -implicitDefEqProofs(disch:=first|decide|omega)only[↓aA,aC,aB,simprocAttr,bB,bF])
  | (refine a7 (pV h p hp _) rfl (by rintro _ ⟨_,_,rfl⟩;rfl) ?_;rintro _ ⟨va,vb,rfl⟩;simp -implicitDefEqProofs(disch:=first|decide|omega)only[↓aA,aC,aB,simprocAttr,bB,bF])
  | (refine aH (q22 _ _ _ _) rfl (by rintro _ ⟨_,_,rfl⟩;rfl) ?_;rintro _ ⟨va,vb,rfl⟩;simp -implicitDefEqProofs(disch:=first|decide|omega)only[↓aA,aC,aB,simprocAttr,bB,bF])
  | (refine a7 (q22 _ _ _ _) rfl (by rintro _ ⟨_,_,rfl⟩;rfl) ?_;rintro _ ⟨va,vb,rfl⟩;simp -implicitDefEqProofs(disch:=first|decide|omega)only[↓aA,aC,aB,simprocAttr,bB,bF])
  | (refine aH (uI h hq p hp _) rfl (by rintro _ ⟨_,_,rfl⟩;rfl) ?_;rintro _ ⟨va,vb,rfl⟩;simp -implicitDefEqProofs(disch:=first|decide|omega)only[↓aA,aC,aB,simprocAttr,bB,bF])
  | (refine a7 (uI h hq p hp _) rfl (by rintro _ ⟨_,_,rfl⟩;rfl) ?_;rintro _ ⟨va,vb,rfl⟩;simp -implicitDefEqProofs(disch:=first|decide|omega)only[↓aA,aC,aB,simprocAttr,bB,bF])
  | (refine aE (aI.of (aM:=false) (fO _ _ _ _) (.refl rfl) rfl (by simp)) ?_;simp -implicitDefEqProofs(disch:=first|decide|omega)only[↓aA,aC,aB,simprocAttr,bB,bF])
  | (refine bP (fO _ _ _ _) rfl rfl ?_;simp -implicitDefEqProofs(disch:=first|decide|omega)only[↓aA,aC,aB,simprocAttr,bB,bF])
  | (refine bC (fun hb=>?_) (fun hb=>?_)<;>simp -implicitDefEqProofs(disch:=first|decide|omega)only[↓aA,aC,aB,simprocAttr,hb,bB,bF])
  | (refine a8 (fun hb=>?_) (fun hb=>?_)<;>simp -implicitDefEqProofs(disch:=first|decide|omega)only[↓aA,aC,aB,simprocAttr,hb,bB,bF])
theorem aUM {s:Sta} (h:ST s) (hq:QA s.labels s.qs) (p:List UInt8) (hp:p.length<=60) (k w:Int):aW Tryz.prog 214 [.agg (stC s),.str p,.int .i64 k,.int .i64 w] [] fun y _=>qB y:=by
 refine aK aV0 (by simp) ?_
 unfold aOX
 simp -implicitDefEqProofs(disch:=first|decide|omega)only[↓aA,aC,aB,simprocAttr,bB]
 repeat' first
  | exact ⟨_,rfl⟩
  | with_reducible apply And.intro
  | omega
  | (refine aH (aUI h p hp _ _) rfl (by rintro _ ⟨_,_,rfl⟩;rfl) ?_;rintro _ ⟨va,vb,rfl⟩;simp -implicitDefEqProofs(disch:=first|decide|omega)only[↓aA,aC,aB,simprocAttr,bB])
  | (refine a7 (aUI h p hp _ _) rfl (by rintro _ ⟨_,_,rfl⟩;rfl) ?_;rintro _ ⟨va,vb,rfl⟩;simp -implicitDefEqProofs(disch:=first|decide|omega)only[↓aA,aC,aB,simprocAttr,bB])
  | (refine aH (aUH h hq p hp _) rfl (by rintro _ ⟨_,_,rfl⟩;rfl) ?_;rintro _ ⟨va,vb,rfl⟩;simp -implicitDefEqProofs(disch:=first|decide|omega)only[↓aA,aC,aB,simprocAttr,bB])
  | (refine a7 (aUH h hq p hp _) rfl (by rintro _ ⟨_,_,rfl⟩;rfl) ?_;rintro _ ⟨va,vb,rfl⟩;simp -implicitDefEqProofs(disch:=first|decide|omega)only[↓aA,aC,aB,simprocAttr,bB])
  | (refine aE (aI.of (aM:=false) (fO _ _ _ _) (.refl rfl) rfl (by simp)) ?_;simp -implicitDefEqProofs(disch:=first|decide|omega)only[↓aA,aC,aB,simprocAttr,bB])
  | (refine bP (fO _ _ _ _) rfl rfl ?_;simp -implicitDefEqProofs(disch:=first|decide|omega)only[↓aA,aC,aB,simprocAttr,bB])
  | (refine bC (fun hb=>?_) (fun hb=>?_)<;>simp -implicitDefEqProofs(disch:=first|decide|omega)only[↓aA,aC,aB,simprocAttr,hb,bB])
  | (refine a8 (fun hb=>?_) (fun hb=>?_)<;>simp -implicitDefEqProofs(disch:=first|decide|omega)only[↓aA,aC,aB,simprocAttr,hb,bB])
theorem aBo:∀ (n:Nat) (s:List UInt8),s.length<=n->∀ x∈upL s,x.length<=s.length
 | 0,s,h,x,hx=>by
   have:s=[]:=List.length_eq_zero_iff.1 (by omega)
   subst this
   rw [jX] at hx
   cases hx
 | n+1,s,h,x,hx=>by
   by_cases hs:s=[]
   · subst hs
     rw [jX] at hx
     cases hx
   · rw [oB hs] at hx
     have:=jH s hs
     rcases List.mem_cons.1 hx with rfl|hx
     · omega
     · have:=aBo n _ (by omega) x hx
       omega
theorem aUL {s:Sta} (h:ST s) (hq:QA s.labels s.qs) (p:List UInt8) (hp:p.length<=60) (k a b:Int):aW Tryz.prog 215 [.agg (stC s),.str p,.int .i64 k,.agg [.int .i64 a,.int .i64 b]] [] fun y _=>qB y:=by
 refine aK aVZ (by simp) ?_
 unfold aOW
 refine Yb ?_
 refine aE (aI.of (aM:=false) (zQ p (by omega)) (.refl rfl) rfl (by simp)) ?_
 refine Yb ?_
 have hur:=aBo _ p (Nat.le_refl _)
 have hul:=rH _ p (Nat.le_refl _)
 generalize upL p=U at hur hul
 unfold aCK
 refine Ya ?_
 refine aF (σ:=Nat) (fun z=>⟨[(2,.int .i64 k),(4,.ref 0 0 0),(7,.ref 1 0 0),(9,.sl false 1 (U.map .str)),(10,.int .i64 (z:Int))],[.box (stC s),.box [.int .i64 a,.int .i64 b]]⟩) (fun z=>z<=U.length) (fun z=>U.length-z) 0 ?_ (by simp) ?_
 · exact Sub.ofS [some 0,some 1]
 rintro i hi
 unfold aCJ
 by_cases hn:i<U.length
 · have hg:U.getD i default=U[i]:=by simp [hn]
   have hui:U[i].length<=60:=Nat.le_trans (hur _ (List.getElem_mem hn)) hp
   simp -implicitDefEqProofs(disch:=first|decide|omega)only[↓aA,aC,aB,simprocAttr,bB,hg]
   repeat' first
    | exact ⟨_,rfl⟩
    | (refine ⟨i+1,?_,by omega,by omega⟩;(refine Sub.of0 [some 0,some 1] rfl ?_ rfl ?_<;>repeat' first|trivial|rfl|exact .inl rfl|exact .inr ⟨rfl,_,_,rfl⟩|(simp;done)|(simp;omega)|refine And.intro ?_ ?_);done)
    | with_reducible apply And.intro
    | omega
    | (refine aH (pV h _ hui _) rfl (by rintro _ ⟨_,_,rfl⟩;rfl) ?_;rintro _ ⟨va,vb,rfl⟩;simp -implicitDefEqProofs(disch:=first|decide|omega)only[↓aA,aC,aB,simprocAttr,bB,hg])
    | (refine a7 (pV h _ hui _) rfl (by rintro _ ⟨_,_,rfl⟩;rfl) ?_;rintro _ ⟨va,vb,rfl⟩;simp -implicitDefEqProofs(disch:=first|decide|omega)only[↓aA,aC,aB,simprocAttr,bB,hg])
    | (refine aH (q22 _ _ _ _) rfl (by rintro _ ⟨_,_,rfl⟩;rfl) ?_;rintro _ ⟨va,vb,rfl⟩;simp -implicitDefEqProofs(disch:=first|decide|omega)only[↓aA,aC,aB,simprocAttr,bB,hg])
    | (refine a7 (q22 _ _ _ _) rfl (by rintro _ ⟨_,_,rfl⟩;rfl) ?_;rintro _ ⟨va,vb,rfl⟩;simp -implicitDefEqProofs(disch:=first|decide|omega)only[↓aA,aC,aB,simprocAttr,bB,hg])
    | (refine aH (aQH h hq _ hui _) rfl (by rintro _ ⟨_,_,rfl⟩;rfl) ?_;rintro _ ⟨va,vb,rfl⟩;simp -implicitDefEqProofs(disch:=first|decide|omega)only[↓aA,aC,aB,simprocAttr,bB,hg])
    | (refine a7 (aQH h hq _ hui _) rfl (by rintro _ ⟨_,_,rfl⟩;rfl) ?_;rintro _ ⟨va,vb,rfl⟩;simp -implicitDefEqProofs(disch:=first|decide|omega)only[↓aA,aC,aB,simprocAttr,bB,hg])
    | (refine aE (aI.of (aM:=false) (fO _ _ _ _) (.refl rfl) rfl (by simp)) ?_;simp -implicitDefEqProofs(disch:=first|decide|omega)only[↓aA,aC,aB,simprocAttr,bB,hg])
    | (refine bP (fO _ _ _ _) rfl rfl ?_;simp -implicitDefEqProofs(disch:=first|decide|omega)only[↓aA,aC,aB,simprocAttr,bB,hg])
    | (refine aH (aE8 h _) rfl (by rintro _ ⟨_,_,rfl⟩;rfl) ?_;rintro _ ⟨va,vb,rfl⟩;simp -implicitDefEqProofs(disch:=first|decide|omega)only[↓aA,aC,aB,simprocAttr,bB,hg])
    | (refine a7 (aE8 h _) rfl (by rintro _ ⟨_,_,rfl⟩;rfl) ?_;rintro _ ⟨va,vb,rfl⟩;simp -implicitDefEqProofs(disch:=first|decide|omega)only[↓aA,aC,aB,simprocAttr,bB,hg])
    | (refine aH (aUG h _) rfl (by rintro _ ⟨_,_,rfl⟩;rfl) ?_;rintro _ ⟨va,vb,rfl⟩;simp -implicitDefEqProofs(disch:=first|decide|omega)only[↓aA,aC,aB,simprocAttr,bB,hg])
    | (refine a7 (aUG h _) rfl (by rintro _ ⟨_,_,rfl⟩;rfl) ?_;rintro _ ⟨va,vb,rfl⟩;simp -implicitDefEqProofs(disch:=first|decide|omega)only[↓aA,aC,aB,simprocAttr,bB,hg])
    | (refine aH (q68 _ _ _ _) rfl (by rintro _ ⟨_,_,rfl⟩;rfl) ?_;rintro _ ⟨va,vb,rfl⟩;simp -implicitDefEqProofs(disch:=first|decide|omega)only[↓aA,aC,aB,simprocAttr,bB,hg])
    | (refine a7 (q68 _ _ _ _) rfl (by rintro _ ⟨_,_,rfl⟩;rfl) ?_;rintro _ ⟨va,vb,rfl⟩;simp -implicitDefEqProofs(disch:=first|decide|omega)only[↓aA,aC,aB,simprocAttr,bB,hg])
    | (refine bC (fun hb=>?_) (fun hb=>?_)<;>simp -implicitDefEqProofs(disch:=first|decide|omega)only[↓aA,aC,aB,simprocAttr,hb,bB,hg])
    | (refine a8 (fun hb=>?_) (fun hb=>?_)<;>simp -implicitDefEqProofs(disch:=first|decide|omega)only[↓aA,aC,aB,simprocAttr,hb,bB,hg])
 · simp -implicitDefEqProofs(disch:=first|decide|omega)only[↓aA,aC,aB,simprocAttr,bB]
   repeat' first
    | exact ⟨_,rfl⟩
    | with_reducible apply And.intro
    | omega
theorem aLk (l:List dR) (hl:l.length<=12) (a b:Int) (p:dR) (t w:Int):aW Tryz.prog 184 [.sl false 6 (l.map eD),.agg [.int .i64 a,.int .i64 b],eD p,.int .i64 t,.int .i64 w] [] fun y _=>qB y:=by
 refine aK aWc (by simp) ?_
 unfold aPh
 refine Yd ?_
 refine a7 (aQI l hl _ _) rfl (by rintro _ ⟨_,_,rfl⟩;rfl) ?_
 rintro _ ⟨u,v,rfl⟩
 refine Yd ?_
 refine a7 (q22 _ _ _ _) rfl (by rintro _ ⟨_,_,rfl⟩;rfl) ?_
 rintro _ ⟨u2,v2,rfl⟩
 refine Yd ?_
 refine bP (fO _ _ _ _) rfl rfl ?_
 refine Yd ?_
 refine a8 (fun hb=>?_) (fun hb=>?_)<;>simp -implicitDefEqProofs(disch:=first|decide|omega)only[↓aA,aC,aB,simprocAttr,hb,bB,bG]
 · exact ⟨_,rfl⟩
 unfold aDi
 refine Ya ?_
 refine aF (σ:=Nat) (fun z=>⟨[(0,.sl false 6 (l.map eD)),(3,.int .i64 t),(4,.int .i64 w),(6,.ref 0 0 0),(7,.ref 1 0 0),(11,.int .i64 (z:Int))],[.box [.int .i64 a,.int .i64 b],.box (eD p).cells]⟩) (fun z=>z<=l.length) (fun z=>l.length-z) 0 ?_ (by simp) ?_
 · exact Sub.ofS [some 0,some 1]
 rintro i hi
 unfold aDh
 by_cases hn:i<l.length
 · simp -implicitDefEqProofs(disch:=first|decide|omega)only[↓aA,aC,aB,simprocAttr,bB,bG]
   repeat' first
    | exact ⟨_,rfl⟩
    | (refine ⟨i+1,?_,by omega,by omega⟩;(refine Sub.of0 [some 0,some 1] rfl ?_ rfl ?_<;>repeat' first|trivial|rfl|exact .inl rfl|exact .inr ⟨rfl,_,_,rfl⟩|(simp;done)|(simp;omega)|refine And.intro ?_ ?_);done)
    | with_reducible apply And.intro
    | omega
    | (refine aH (aQI l hl _ _) rfl (by rintro _ ⟨_,_,rfl⟩;rfl) ?_;rintro _ ⟨va,vb,rfl⟩;simp -implicitDefEqProofs(disch:=first|decide|omega)only[↓aA,aC,aB,simprocAttr,bB,bG])
    | (refine a7 (aQI l hl _ _) rfl (by rintro _ ⟨_,_,rfl⟩;rfl) ?_;rintro _ ⟨va,vb,rfl⟩;simp -implicitDefEqProofs(disch:=first|decide|omega)only[↓aA,aC,aB,simprocAttr,bB,bG])
    | (refine aH (q22 _ _ _ _) rfl (by rintro _ ⟨_,_,rfl⟩;rfl) ?_;rintro _ ⟨va,vb,rfl⟩;simp -implicitDefEqProofs(disch:=first|decide|omega)only[↓aA,aC,aB,simprocAttr,bB,bG])
    | (refine a7 (q22 _ _ _ _) rfl (by rintro _ ⟨_,_,rfl⟩;rfl) ?_;rintro _ ⟨va,vb,rfl⟩;simp -implicitDefEqProofs(disch:=first|decide|omega)only[↓aA,aC,aB,simprocAttr,bB,bG])
    | (refine aE (aI.of (aM:=false) (fO _ _ _ _) (.refl rfl) rfl (by simp)) ?_;simp -implicitDefEqProofs(disch:=first|decide|omega)only[↓aA,aC,aB,simprocAttr,bB,bG])
    | (refine bP (fO _ _ _ _) rfl rfl ?_;simp -implicitDefEqProofs(disch:=first|decide|omega)only[↓aA,aC,aB,simprocAttr,bB,bG])
    | (refine bC (fun hb=>?_) (fun hb=>?_)<;>simp -implicitDefEqProofs(disch:=first|decide|omega)only[↓aA,aC,aB,simprocAttr,hb,bB,bG])
    | (refine a8 (fun hb=>?_) (fun hb=>?_)<;>simp -implicitDefEqProofs(disch:=first|decide|omega)only[↓aA,aC,aB,simprocAttr,hb,bB,bG])
 · simp -implicitDefEqProofs(disch:=first|decide|omega)only[↓aA,aC,aB,simprocAttr,bB,bG]
   repeat' first
    | exact ⟨_,rfl⟩
    | with_reducible apply And.intro
    | omega
def a0w:{c:CC // aJ Tryz.prog 219=c}:=⟨_,by conv=>lhs;reduce⟩
def aYj:{c:CC // bA Tryz.prog 219 {} a0w.1 [([1,1,1,1,1,0,0],(.f [0,3,1,2,4,2005,2006])),([1,1,1,1,1,0,1,0,1,0],(.p [0] (.f [1,2,3,4]) (.f [2,3,1,4])))]=c}:=⟨_,by conv=>lhs;reduce⟩
def tO:CC:=(fun (c:CC) (_:(aYj.1.aV [1,1,1])=c)=>c) _ (by conv=>lhs;reduce)
def aOS:CC:=(fun (c:CC->CC) (_:(fun a0=>(aYj.1).aU [1,1,1] a0)=c)=>c) _ (by conv=>lhs;reduce) tO
theorem aRL:aX Tryz.prog 219 aOS [.ce 10 41 10 true,.tm 11,.ce 12 82 9 true] 110:=aX.of Tryz.f219 Tryz.func219 rfl ⟨by kernel_rfl,by kernel_rfl,trivial⟩
def zP (s s':Sta):Prop:=s'=s∨∃ a∈s.apps,∃ b:App,b.id=a.id/\b.state=a.state/\s'=iJ s b
def aNL (B:Nat) (s:Sta) (y:AV):Prop:=∃ s':Sta,∃ k:Int,∃ c:bD,y= .tup [.agg (stC s'),.int .i64 k,bY c]/\II (B+1) s'/\(k=0->II B s'/\zP s s')
set_option maxHeartbeats 2000000 in
theorem aKD {B:Nat} (s:Sta) (h:II B s) (hB:B+1<=2^39) (n:Node) (hn:n∈s.nodes) (hu:n.up=true) (a:App) (ha:a∈s.apps) (hl:live a=true) (x:Ask) (hx:jT x) (hc:s.conts.length<200) (hq:s.sq+1<2^20) (hs:∀ y∈s.slots,y.node≠n.id) (first:Bool) :
 aW Tryz.prog 219 [.agg (stC s),bO n,APP a,ASK x,.bool first] [] fun y _=>aNL B s y:=by
 have K:=okS h (by omega)
 have haR:=h.aR a ha
 have d0:∀ (b:Bool),aNL B s (.tup [.agg (stC s),.int .i64 0,bY cI]):=fun _=>⟨s,0,cI,rfl,h.mono (by omega),fun _=>⟨h,.inl rfl⟩⟩
 have hsz:=x.mem
 refine aO aRL (by simp) ?_
 unfold aOS
 refine Yg ?_
 refine aH (aUN K.st K.w a.queue haR.queue x) rfl (by rintro _ ⟨_,rfl⟩;rfl) ?_
 rintro _ ⟨due,rfl⟩
 refine Yg ?_
 refine aH (aUJ x n) rfl (by rintro _ ⟨_,rfl⟩;rfl) ?_
 rintro _ ⟨lv,rfl⟩
 by_cases h4:lv=4
 · refine Xg h4 ?_
   exact d0 true
 refine Xg h4 ?_
 refine aE (aI.of (aM:=false) (fO x.mem x.cores n.mem n.cores) (.refl rfl) rfl (by simp)) ?_
 by_cases hf:x.mem<=n.mem/\x.cores<=n.cores
 case neg =>
  rw [decide_eq_false hf]
  refine Yg ?_
  exact d0 true
 rw [decide_eq_true hf]
 have rest:aw Tryz.prog tO (oN [.ce 10 41 10 true,.tm 11,.ce 12 82 9 true] fun y _=>aNL B s y) ⟨[(4,.bool first),(5,.ref 0 0 0),(6,.ref 1 0 0),(7,.ref 2 0 0),(8,.ref 3 0 0),(10,.ref 4 0 0),(12,.ref 5 0 0),(13,.bool due)],[.box (stC s),.box (cB n),.box (bI a),.box (fC x),.box [.aD,.aD,.aD,.aD,.aD,.aD,.aD,.int .i64 0,.int .i64 0,.int .i64 0],.box [.int .i64 0,.int .i64 0,.int .i64 0,.int .i64 0,.int .i64 0,.int .i64 0,.int .i64 0,.bool false,.int .i64 0]]⟩:=by
  unfold tO
  refine Yg ?_
  refine aH (aUO x n) rfl (by rintro _ ⟨_,rfl⟩;rfl) ?_
  rintro _ ⟨may,rfl⟩
  cases may
  · have hb:(first==due)=true∨(first==due)=false:=by cases (first==due)<;>simp
    rcases hb with hb|hb
    · simp -implicitDefEqProofs(disch:=first|decide|omega)only[↓aA,aC,aB,simprocAttr,bB,aN,bF,a9,hb]
      refine aE (aI.of (aM:=false) (aIf a.asks (by have:=haR.asks;omega) x.prio fun y hy=>(haR.ask y hy).missed) (.refl rfl) rfl (by simp)) ?_
      simp -implicitDefEqProofs(disch:=first|decide|omega)only[↓aA,aC,aB,simprocAttr,bB,aN,bF,a9]
      have c44:=gB s (by have:=K.sz.a;omega) { a with asks:=fF x.prio a.asks }
      refine aE (aI.of (aM:=false) (c44) (.refl rfl) rfl (by simp)) ?_
      simp -implicitDefEqProofs(disch:=first|decide|omega)only[↓aA,aC,aB,simprocAttr,bB]
      exact ⟨iJ s { a with asks:=fF x.prio a.asks },0,cI,rfl,(yD h ha x.prio).mono (by omega),fun _=>⟨yD h ha x.prio,.inr ⟨a,ha,{ a with asks:=fF x.prio a.asks },rfl,rfl,rfl⟩⟩⟩
    · simp -implicitDefEqProofs(disch:=first|decide|omega)only[↓aA,aC,aB,simprocAttr,bB,aN,bF,a9,hb]
      exact d0 true
  · refine Yg ?_
    refine aH (aUL K.st K.w a.queue haR.queue n.label x.mem x.cores) rfl (by rintro _ ⟨_,rfl⟩;rfl) ?_
    rintro _ ⟨room,rfl⟩
    cases room
    · refine Yg ?_
      exact d0 true
    refine Yg ?_
    refine bP (yB s (by have:=K.st.n;omega) (by omega) K.co K.no n.id) rfl rfl ?_
    refine Yg ?_
    refine bP (fO x.mem x.cores (eY n.id s).1 (eY n.id s).2) rfl rfl ?_
    by_cases hfit:x.mem<=(eY n.id s).1/\x.cores<=(eY n.id s).2
    · rw [decide_eq_true hfit]
      refine Yg ?_
      refine aE (aI.of (aM:=false) (yY s n a x (by omega) (by have:=K.sz.a;omega) (by have:=haR.asks;omega) (fun y hy=>by have:=(haR.ask y hy).count;omega) (K.sz.g a ha) K.ep K.sq) (.refl rfl) rfl (by simp)) ?_
      refine Yc ?_
      have hfl:=(o7 h hn).1 hu
      exact ⟨mK s n a x,1,jV s n a x,rfl,vG h hn hu ha hl hx hc hq (by omega) (by omega),fun e=>absurd e (by decide)⟩
    · rw [decide_eq_false hfit]
      cases first
      · refine Yg ?_
        exact d0 true
      · refine Yg ?_
        refine aE (aI.of (aM:=false) (aIg s (by have:=K.sz.l;omega) a.id x.prio) (.refl rfl) rfl (by simp)) ?_
        cases hk:aAz a.id x.prio s.slots
        · refine Yg ?_
          have c237:=aMS s (by have:=K.sz.l;omega) ⟨n.id,a.id,x.prio⟩
          refine aE (aI.of (aM:=false) (c237) (.refl rfl) rfl (by simp)) ?_
          refine Yb ?_
          exact ⟨yW s ⟨n.id,a.id,x.prio⟩,2,cI,rfl,(aIp h hs ⟨n,hn,rfl,hu⟩).mono (by omega),fun e=>absurd e (by decide)⟩
        · refine Yg ?_
          exact d0 true
 cases first
 · refine Yg ?_
   exact rest
 · cases due
   · refine Yg ?_
     exact d0 true
   · refine Yg ?_
     exact rest
def a0R:{c:CC // aJ Tryz.prog 194=c}:=⟨_,by conv=>lhs;reduce⟩
def aTK:{c:CC // bA Tryz.prog 194 {} a0R.1 [([1,1,1,1,0,0],(.f [0,3,1,2,4,2005,2006,7,8,10,12,14,9,11,13,15,2016,17,18])),([1,1,1,1,1,0],(.p [1,0,2,4,5,6] (.p [2003] (.p [2007,8,9,10] (.f [11,12,13,14]) (.f [12,11,13,14])) (.p [] (.f [11,12,2007,8,9,10,13,14]) (.f [12,11,2007,8,9,10,13,14]))) (.p [] (.f [11,12,2003,2007,8,9,10,13,14]) (.f [12,11,2003,2007,8,9,10,13,14])))),([1,1,1,1,1,1,0],(.p [0] (.f [1,2,3,4,5]) (.f [2,3,1,4,5])))]=c}:=⟨_,by conv=>lhs;reduce⟩
def tP:CC:=(fun (c:CC) (_:(aTK.1.aV [1,1,1,1])=c)=>c) _ (by conv=>lhs;reduce)
def tQ:CC:=(fun (c:CC) (_:(aTK.1.aV [1,1,1,0,1,0])=c)=>c) _ (by conv=>lhs;reduce)
def aPd:CC:=(fun (c:CC->CC->CC) (_:(fun a0 a1=>((aTK.1).aU [1,1,1,0,1,0] a0).aU [1,1,1,1] a1)=c)=>c) _ (by conv=>lhs;reduce) tQ tP
theorem aRS:aX Tryz.prog 194 aPd [.ce 6 41 10 true,.tm 7,.ce 8 82 9 true,.tm 9] 114:=aX.of Tryz.f194 Tryz.func194 rfl ⟨by kernel_rfl,by kernel_rfl,trivial⟩
end Go.Proofs.YtakemdamegfcfaaGreat
