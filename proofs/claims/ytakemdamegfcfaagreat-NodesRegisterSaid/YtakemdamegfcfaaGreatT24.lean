/- A part of a proof: what functions of the program compute. No condition. -/
import Derived.Test.YtakemdamegfcfaaGreatT23
import Derived.Test.YtakemdamegfcfaaGreatT21
import Derived.Test.YtakemdamegfcfaaGreatT12
import Derived.Test.YtakemdamegfcfaaGreatProg
import Derived.KernelRfl
import Derived.Test.YtakemdamegfcfaaGreatT6
set_option linter.unusedSimpArgs false
set_option linter.unusedVariables false
set_option maxHeartbeats 16000000
set_option maxRecDepth 100000
namespace Go.Proofs.YtakemdamegfcfaaGreat
open Go Go.Ab
def qB (y:AV):Prop:=∃ b:Bool,y= .bool b
def qI (y:AV):Prop:=∃ n:Int,y= .int .i64 n
def qV (y:AV):Prop:=∃ a b:Int,y= .agg [.int .i64 a,.int .i64 b]
theorem aUD (a:Int):aW Tryz.prog 248 [.int .i64 a] [] fun y _=>qB y:=by
 refine aK aVI (by simp) ?_
 unfold aOs
 simp -implicitDefEqProofs(disch:=first|decide|omega)only[↓aA,aC,aB,simprocAttr]
 repeat' (refine bC (fun hb=>?_) (fun hb=>?_)<;>simp -implicitDefEqProofs(disch:=first|decide|omega)only[↓aA,aC,aB,simprocAttr,hb,])
 all_goals exact ⟨_,rfl⟩
theorem aLf (a b:Int):aW Tryz.prog 245 [.agg [.int .i64 a,.int .i64 b]] [] fun y _=>qB y:=by
 refine aK aVL (by simp) ?_
 unfold aOv
 simp -implicitDefEqProofs(disch:=first|decide|omega)only[↓aA,aC,aB,simprocAttr]
 refine aH (aUD a) rfl (by rintro _ ⟨_,rfl⟩;rfl) ?_
 rintro _ ⟨b1,rfl⟩
 simp -implicitDefEqProofs(disch:=first|decide|omega)only[↓aA,aC,aB,simprocAttr]
 repeat' first
  | exact ⟨_,rfl⟩
  | (refine bC (fun hb=>?_) (fun hb=>?_)<;>simp -implicitDefEqProofs(disch:=first|decide|omega)only[↓aA,aC,aB,simprocAttr,hb])
  | (refine a8 (fun hb=>?_) (fun hb=>?_)<;>simp -implicitDefEqProofs(disch:=first|decide|omega)only[↓aA,aC,aB,simprocAttr,hb])
  | (refine aH (aUD _) rfl (by rintro _ ⟨_,rfl⟩;rfl) ?_;rintro _ ⟨_,rfl⟩;simp -implicitDefEqProofs(disch:=first|decide|omega)only[↓aA,aC,aB,simprocAttr])
theorem aUJ (x:Ask) (n:Node):aW Tryz.prog 227 [ASK x,bO n] [] fun y _=>qI y:=by
 refine aK aVV (by simp) ?_
 unfold aON
 simp -implicitDefEqProofs(disch:=first|decide|omega)only[↓aA,aC,aB,simprocAttr,bF,aN]
 repeat' first
  | exact ⟨_,rfl⟩
  | (refine bC (fun hb=>?_) (fun hb=>?_)<;>simp -implicitDefEqProofs(disch:=first|decide|omega)only[↓aA,aC,aB,simprocAttr,hb,bF,aN])
  | (refine a8 (fun hb=>?_) (fun hb=>?_)<;>simp -implicitDefEqProofs(disch:=first|decide|omega)only[↓aA,aC,aB,simprocAttr,hb,bF,aN])
theorem aUO (x:Ask) (n:Node):aW Tryz.prog 212 [ASK x,bO n] [] fun y _=>qB y:=by
 refine aK aV2 (by simp) ?_
 unfold aOZ
 simp -implicitDefEqProofs(disch:=first|decide|omega)only[↓aA,aC,aB,simprocAttr,bF,aN]
 repeat' first
  | exact ⟨_,rfl⟩
  | (refine aH (aUJ _ _) rfl (by rintro _ ⟨_,rfl⟩;rfl) ?_;rintro _ ⟨_,rfl⟩;simp -implicitDefEqProofs(disch:=first|decide|omega)only[↓aA,aC,aB,simprocAttr,bF,aN])
  | (refine bC (fun hb=>?_) (fun hb=>?_)<;>simp -implicitDefEqProofs(disch:=first|decide|omega)only[↓aA,aC,aB,simprocAttr,hb,bF,aN])
  | (refine a8 (fun hb=>?_) (fun hb=>?_)<;>simp -implicitDefEqProofs(disch:=first|decide|omega)only[↓aA,aC,aB,simprocAttr,hb,bF,aN])
theorem aUE (a b:Int):aW Tryz.prog 246 [.int .i64 a,.int .i64 b] [] fun y _=>qI y:=by
 refine aK aVK (by simp) ?_
 unfold aOu
 simp -implicitDefEqProofs(disch:=first|decide|omega)only[↓aA,aC,aB,simprocAttr]
 repeat' first
  | exact ⟨_,rfl⟩
  | with_reducible apply And.intro
  | omega
def aZh (a b:Int):Int:=IntKind.i64.wrap (BitVec.ofInt IntKind.i64.bits a &&& BitVec.ofInt IntKind.i64.bits b).toNat
theorem aSo {a b:Int} {K:AV->Prop}:ik .and .i64 a b K=K (.int .i64 (aZh a b)):=rfl
theorem aUA (a b:Int):aW Tryz.prog 252 [.int .i64 a,.int .i64 b] [] fun y _=>∃ a b:Int,y= .tup [.int .i64 a,.int .i64 b]:=by
 refine aK aVF (by simp) ?_
 unfold aOn
 simp -implicitDefEqProofs(disch:=first|decide|omega)only[↓aA,aC,aB,simprocAttr,aSo]
 repeat' first
  | exact ⟨_,_,rfl⟩
  | with_reducible apply And.intro
  | omega
theorem q22 (a b c d:Int):aW Tryz.prog 22 [.agg [.int .i64 a,.int .i64 b],.agg [.int .i64 c,.int .i64 d]] [] fun y _=>qV y:=by
 refine aO aOb (by simp) ?_
 unfold aSR
 simp -implicitDefEqProofs(disch:=first|decide|omega)only[↓aA,aC,aB,simprocAttr,bB]
 repeat' first
  | exact ⟨_,_,rfl⟩
  | with_reducible apply And.intro
  | omega
  | (refine bC (fun hb=>?_) (fun hb=>?_)<;>simp -implicitDefEqProofs(disch:=first|decide|omega)only[↓aA,aC,aB,simprocAttr,hb,bB])
  | (refine a8 (fun hb=>?_) (fun hb=>?_)<;>simp -implicitDefEqProofs(disch:=first|decide|omega)only[↓aA,aC,aB,simprocAttr,hb,bB])
theorem aE7 (a:Int):aW Tryz.prog 244 [.int .i64 a] [] fun y _=>qI y:=by
 refine aK aVM (by simp) ?_
 unfold aOw
 simp -implicitDefEqProofs(disch:=first|decide|omega)only[↓aA,aC,aB,simprocAttr]
 repeat' first
  | exact ⟨_,rfl⟩
  | with_reducible apply And.intro
  | omega
  | (refine bC (fun hb=>?_) (fun hb=>?_)<;>simp -implicitDefEqProofs(disch:=first|decide|omega)only[↓aA,aC,aB,simprocAttr,hb])
  | (refine a8 (fun hb=>?_) (fun hb=>?_)<;>simp -implicitDefEqProofs(disch:=first|decide|omega)only[↓aA,aC,aB,simprocAttr,hb])
theorem aE8 {s:Sta} (h:ST s) (k:Int):aW Tryz.prog 159 [.agg (stC s),.int .i64 k] [] fun y _=>qV y:=by
 have k1:=h.k
 have k2:=h.n
 have k3:=h.a
 have k4:=h.p
 refine aO aRY (by simp) ?_
 unfold aPu
 simp -implicitDefEqProofs(disch:=first|decide|omega)only[↓aA,aC,aB,simprocAttr,bB,aN]
 unfold aDI
 simp -implicitDefEqProofs(disch:=first|decide|omega)only[↓aA,aC,aB,simprocAttr]
 refine aF (σ:=Nat×Int×Int) (fun z=>⟨[(1,.int .i64 k),(2,.ref 0 0 0),(4,.ref 1 0 0),(5,.ref 2 0 0),(6,.int .i64 (z.1:Int))],[.box (stC s),.box [.int .i64 0,.int .i64 0],.box [.int .i64 z.2.1,.int .i64 z.2.2]]⟩) (fun z=>z.1<=s.nodes.length) (fun z=>s.nodes.length-z.1) (0,0,0) ?_ (by simp) ?_
 · (refine Sub.of0 [some 0,some 1,some 2] rfl ?_ rfl ?_<;>repeat' first|trivial|rfl|exact .inl rfl|exact .inr ⟨rfl,_,_,rfl⟩|(simp;done)|(simp;omega)|refine And.intro ?_ ?_)
 rintro ⟨i,u,v⟩ hi
 simp only at hi
 unfold aDH
 by_cases hn:i<s.nodes.length
 · simp -implicitDefEqProofs(disch:=first|decide|omega)only[↓aA,aC,aB,simprocAttr,bB,aN]
   repeat' first
    | exact ⟨_,_,rfl⟩
    | (refine ⟨(i+1,va,vb),?_,by simp only;omega,by simp only;omega⟩;(refine Sub.of0 [some 0,some 1,some 2] rfl ?_ rfl ?_<;>repeat' first|trivial|rfl|exact .inl rfl|exact .inr ⟨rfl,_,_,rfl⟩|(simp;done)|(simp;omega)|refine And.intro ?_ ?_);done)
    | (refine ⟨(i+1,u,v),?_,by simp only;omega,by simp only;omega⟩;(refine Sub.of0 [some 0,some 1,some 2] rfl ?_ rfl ?_<;>repeat' first|trivial|rfl|exact .inl rfl|exact .inr ⟨rfl,_,_,rfl⟩|(simp;done)|(simp;omega)|refine And.intro ?_ ?_);done)
    | with_reducible apply And.intro
    | omega
    | (refine aH (q22 _ _ _ _) rfl (by rintro _ ⟨_,_,rfl⟩;rfl) ?_;rintro _ ⟨va,vb,rfl⟩;simp -implicitDefEqProofs(disch:=first|decide|omega)only[↓aA,aC,aB,simprocAttr,bB,aN])
    | (refine a7 (q22 _ _ _ _) rfl (by rintro _ ⟨_,_,rfl⟩;rfl) ?_;rintro _ ⟨va,vb,rfl⟩;simp -implicitDefEqProofs(disch:=first|decide|omega)only[↓aA,aC,aB,simprocAttr,bB,aN])
    | (refine bC (fun hb=>?_) (fun hb=>?_)<;>simp -implicitDefEqProofs(disch:=first|decide|omega)only[↓aA,aC,aB,simprocAttr,hb,bB,aN])
    | (refine a8 (fun hb=>?_) (fun hb=>?_)<;>simp -implicitDefEqProofs(disch:=first|decide|omega)only[↓aA,aC,aB,simprocAttr,hb,bB,aN])
 · simp -implicitDefEqProofs(disch:=first|decide|omega)only[↓aA,aC,aB,simprocAttr,bB,aN]
   repeat' first
    | exact ⟨_,_,rfl⟩
    | with_reducible apply And.intro
    | omega
theorem aUG {s:Sta} (h:ST s) (k:Int):aW Tryz.prog 232 [.agg (stC s),.int .i64 k] [] fun y _=>qV y:=by
 have k1:=h.k
 have k2:=h.n
 have k3:=h.a
 have k4:=h.p
 refine aO aRE (by simp) ?_
 unfold aOI
 simp -implicitDefEqProofs(disch:=first|decide|omega)only[↓aA,aC,aB,simprocAttr,bB,bG]
 unfold aCu
 simp -implicitDefEqProofs(disch:=first|decide|omega)only[↓aA,aC,aB,simprocAttr]
 refine aF (σ:=Nat×Int×Int) (fun z=>⟨[(1,.int .i64 k),(2,.ref 0 0 0),(4,.ref 1 0 0),(5,.ref 2 0 0),(6,.int .i64 (z.1:Int))],[.box (stC s),.box [.int .i64 0,.int .i64 0],.box [.int .i64 z.2.1,.int .i64 z.2.2]]⟩) (fun z=>z.1<=s.plans.length) (fun z=>s.plans.length-z.1) (0,0,0) ?_ (by simp) ?_
 · (refine Sub.of0 [some 0,some 1,some 2] rfl ?_ rfl ?_<;>repeat' first|trivial|rfl|exact .inl rfl|exact .inr ⟨rfl,_,_,rfl⟩|(simp;done)|(simp;omega)|refine And.intro ?_ ?_)
 rintro ⟨i,u,v⟩ hi
 simp only at hi
 unfold aCt
 by_cases hn:i<s.plans.length
 · simp -implicitDefEqProofs(disch:=first|decide|omega)only[↓aA,aC,aB,simprocAttr,bB,bG]
   repeat' first
    | exact ⟨_,_,rfl⟩
    | (refine ⟨(i+1,va,vb),?_,by simp only;omega,by simp only;omega⟩;(refine Sub.of0 [some 0,some 1,some 2] rfl ?_ rfl ?_<;>repeat' first|trivial|rfl|exact .inl rfl|exact .inr ⟨rfl,_,_,rfl⟩|(simp;done)|(simp;omega)|refine And.intro ?_ ?_);done)
    | (refine ⟨(i+1,u,v),?_,by simp only;omega,by simp only;omega⟩;(refine Sub.of0 [some 0,some 1,some 2] rfl ?_ rfl ?_<;>repeat' first|trivial|rfl|exact .inl rfl|exact .inr ⟨rfl,_,_,rfl⟩|(simp;done)|(simp;omega)|refine And.intro ?_ ?_);done)
    | with_reducible apply And.intro
    | omega
    | (refine aH (q22 _ _ _ _) rfl (by rintro _ ⟨_,_,rfl⟩;rfl) ?_;rintro _ ⟨va,vb,rfl⟩;simp -implicitDefEqProofs(disch:=first|decide|omega)only[↓aA,aC,aB,simprocAttr,bB,bG])
    | (refine a7 (q22 _ _ _ _) rfl (by rintro _ ⟨_,_,rfl⟩;rfl) ?_;rintro _ ⟨va,vb,rfl⟩;simp -implicitDefEqProofs(disch:=first|decide|omega)only[↓aA,aC,aB,simprocAttr,bB,bG])
    | (refine bC (fun hb=>?_) (fun hb=>?_)<;>simp -implicitDefEqProofs(disch:=first|decide|omega)only[↓aA,aC,aB,simprocAttr,hb,bB,bG])
    | (refine a8 (fun hb=>?_) (fun hb=>?_)<;>simp -implicitDefEqProofs(disch:=first|decide|omega)only[↓aA,aC,aB,simprocAttr,hb,bB,bG])
 · simp -implicitDefEqProofs(disch:=first|decide|omega)only[↓aA,aC,aB,simprocAttr,bB,bG]
   repeat' first
    | exact ⟨_,_,rfl⟩
    | with_reducible apply And.intro
    | omega
theorem aUF (l:List Ask) (hl:l.length<=8) (k:Int):aW Tryz.prog 241 [.sl false 8 (l.map ASK),.int .i64 k] [] fun y _=>qV y:=by
 refine aO aRB (by simp) ?_
 unfold aOz
 simp -implicitDefEqProofs(disch:=first|decide|omega)only[↓aA,aC,aB,simprocAttr,bB,bF,List.drop_drop]
 unfold aCa
 simp -implicitDefEqProofs(disch:=first|decide|omega)only[↓aA,aC,aB,simprocAttr]
 refine aF (σ:=Nat×Int×Int) (fun z=>⟨[(0,.sl false 8 (l.map ASK)),(1,.int .i64 k),(4,.ref 0 0 0),(5,.ref 1 0 0),(6,.int .i64 (z.1:Int))],[.box [.int .i64 0,.int .i64 0],.box [.int .i64 z.2.1,.int .i64 z.2.2]]⟩) (fun z=>z.1<=l.length) (fun z=>l.length-z.1) (0,0,0) ?_ (by simp) ?_
 · (refine Sub.of0 [some 0,some 1] rfl ?_ rfl ?_<;>repeat' first|trivial|rfl|exact .inl rfl|exact .inr ⟨rfl,_,_,rfl⟩|(simp;done)|(simp;omega)|refine And.intro ?_ ?_)
 rintro ⟨i,u,v⟩ hi
 simp only at hi
 unfold aB9
 by_cases hn:i<l.length
 · simp -implicitDefEqProofs(disch:=first|decide|omega)only[↓aA,aC,aB,simprocAttr,bB,bF,List.drop_drop]
   repeat' first
    | exact ⟨_,_,rfl⟩
    | (refine ⟨(i+1,va,vb),?_,by simp only;omega,by simp only;omega⟩;(refine Sub.of0 [some 0,some 1] rfl ?_ rfl ?_<;>repeat' first|trivial|rfl|exact .inl rfl|exact .inr ⟨rfl,_,_,rfl⟩|(simp;done)|(simp;omega)|refine And.intro ?_ ?_);done)
    | (refine ⟨(i+1,u,v),?_,by simp only;omega,by simp only;omega⟩;(refine Sub.of0 [some 0,some 1] rfl ?_ rfl ?_<;>repeat' first|trivial|rfl|exact .inl rfl|exact .inr ⟨rfl,_,_,rfl⟩|(simp;done)|(simp;omega)|refine And.intro ?_ ?_);done)
    | with_reducible apply And.intro
    | omega
    | (refine aH (q22 _ _ _ _) rfl (by rintro _ ⟨_,_,rfl⟩;rfl) ?_;rintro _ ⟨va,vb,rfl⟩;simp -implicitDefEqProofs(disch:=first|decide|omega)only[↓aA,aC,aB,simprocAttr,bB,bF,List.drop_drop])
    | (refine a7 (q22 _ _ _ _) rfl (by rintro _ ⟨_,_,rfl⟩;rfl) ?_;rintro _ ⟨va,vb,rfl⟩;simp -implicitDefEqProofs(disch:=first|decide|omega)only[↓aA,aC,aB,simprocAttr,bB,bF,List.drop_drop])
    | (refine bC (fun hb=>?_) (fun hb=>?_)<;>simp -implicitDefEqProofs(disch:=first|decide|omega)only[↓aA,aC,aB,simprocAttr,hb,bB,bF,List.drop_drop])
    | (refine a8 (fun hb=>?_) (fun hb=>?_)<;>simp -implicitDefEqProofs(disch:=first|decide|omega)only[↓aA,aC,aB,simprocAttr,hb,bB,bF,List.drop_drop])
 · simp -implicitDefEqProofs(disch:=first|decide|omega)only[↓aA,aC,aB,simprocAttr,bB,bF,List.drop_drop]
   repeat' first
    | exact ⟨_,_,rfl⟩
    | with_reducible apply And.intro
    | omega
theorem aQI (l:List dR) (hl:l.length<=12) (k t:Int):aW Tryz.prog 206 [.sl false 6 (l.map eD),.int .i64 k,.int .i64 t] [] fun y _=>qV y:=by
 refine aO aRO (by simp) ?_
 unfold aO1
 simp -implicitDefEqProofs(disch:=first|decide|omega)only[↓aA,aC,aB,simprocAttr,bB,bG]
 unfold aCO
 simp -implicitDefEqProofs(disch:=first|decide|omega)only[↓aA,aC,aB,simprocAttr]
 refine aF (σ:=Nat×Int×Int) (fun z=>⟨[(0,.sl false 6 (l.map eD)),(1,.int .i64 k),(2,.int .i64 t),(6,.ref 0 0 0),(7,.ref 1 0 0),(8,.int .i64 (z.1:Int))],[.box [.int .i64 0,.int .i64 0],.box [.int .i64 z.2.1,.int .i64 z.2.2]]⟩) (fun z=>z.1<=l.length) (fun z=>l.length-z.1) (0,0,0) ?_ (by simp) ?_
 · (refine Sub.of0 [some 0,some 1] rfl ?_ rfl ?_<;>repeat' first|trivial|rfl|exact .inl rfl|exact .inr ⟨rfl,_,_,rfl⟩|(simp;done)|(simp;omega)|refine And.intro ?_ ?_)
 rintro ⟨i,u,v⟩ hi
 simp only at hi
 unfold aCN
 by_cases hn:i<l.length
 · simp -implicitDefEqProofs(disch:=first|decide|omega)only[↓aA,aC,aB,simprocAttr,bB,bG]
   repeat' first
    | exact ⟨_,_,rfl⟩
    | (refine ⟨(i+1,va,vb),?_,by simp only;omega,by simp only;omega⟩;(refine Sub.of0 [some 0,some 1] rfl ?_ rfl ?_<;>repeat' first|trivial|rfl|exact .inl rfl|exact .inr ⟨rfl,_,_,rfl⟩|(simp;done)|(simp;omega)|refine And.intro ?_ ?_);done)
    | (refine ⟨(i+1,u,v),?_,by simp only;omega,by simp only;omega⟩;(refine Sub.of0 [some 0,some 1] rfl ?_ rfl ?_<;>repeat' first|trivial|rfl|exact .inl rfl|exact .inr ⟨rfl,_,_,rfl⟩|(simp;done)|(simp;omega)|refine And.intro ?_ ?_);done)
    | with_reducible apply And.intro
    | omega
    | (refine aH (q22 _ _ _ _) rfl (by rintro _ ⟨_,_,rfl⟩;rfl) ?_;rintro _ ⟨va,vb,rfl⟩;simp -implicitDefEqProofs(disch:=first|decide|omega)only[↓aA,aC,aB,simprocAttr,bB,bG])
    | (refine a7 (q22 _ _ _ _) rfl (by rintro _ ⟨_,_,rfl⟩;rfl) ?_;rintro _ ⟨va,vb,rfl⟩;simp -implicitDefEqProofs(disch:=first|decide|omega)only[↓aA,aC,aB,simprocAttr,bB,bG])
    | (refine bC (fun hb=>?_) (fun hb=>?_)<;>simp -implicitDefEqProofs(disch:=first|decide|omega)only[↓aA,aC,aB,simprocAttr,hb,bB,bG])
    | (refine a8 (fun hb=>?_) (fun hb=>?_)<;>simp -implicitDefEqProofs(disch:=first|decide|omega)only[↓aA,aC,aB,simprocAttr,hb,bB,bG])
 · simp -implicitDefEqProofs(disch:=first|decide|omega)only[↓aA,aC,aB,simprocAttr,bB,bG]
   repeat' first
    | exact ⟨_,_,rfl⟩
    | with_reducible apply And.intro
    | omega
theorem q68 (a b c d:Int):aW Tryz.prog 68 [.agg [.int .i64 a,.int .i64 b],.agg [.int .i64 c,.int .i64 d]] [] fun y _=>qV y:=by
 refine aO aOa (by simp) ?_
 unfold aSO
 simp -implicitDefEqProofs(disch:=first|decide|omega)only[↓aA,aC,aB,simprocAttr,bB]
 repeat' first
  | exact ⟨_,_,rfl⟩
  | with_reducible apply And.intro
  | omega
  | (refine bC (fun hb=>?_) (fun hb=>?_)<;>simp -implicitDefEqProofs(disch:=first|decide|omega)only[↓aA,aC,aB,simprocAttr,hb,bB])
  | (refine a8 (fun hb=>?_) (fun hb=>?_)<;>simp -implicitDefEqProofs(disch:=first|decide|omega)only[↓aA,aC,aB,simprocAttr,hb,bB])
theorem aLg (a b n:Int):aW Tryz.prog 242 [.agg [.int .i64 a,.int .i64 b],.int .i64 n] [] fun y _=>∃ a b n:Int,y= .tup [.agg [.int .i64 a,.int .i64 b],.int .i64 n]:=by
 refine aO aRA (by simp) ?_
 unfold aOy
 simp -implicitDefEqProofs(disch:=first|decide|omega)only[↓aA,aC,aB,simprocAttr,bB]
 repeat' first
  | exact ⟨_,_,_,rfl⟩
  | with_reducible apply And.intro
  | omega
  | (refine aH (aLf _ _) rfl (by rintro _ ⟨_,rfl⟩;rfl) ?_;rintro _ ⟨bb,rfl⟩;simp -implicitDefEqProofs(disch:=first|decide|omega)only[↓aA,aC,aB,simprocAttr,bB])
  | (refine a7 (aLf _ _) rfl (by rintro _ ⟨_,rfl⟩;rfl) ?_;rintro _ ⟨bb,rfl⟩;simp -implicitDefEqProofs(disch:=first|decide|omega)only[↓aA,aC,aB,simprocAttr,bB])
  | (refine aH (aUE _ _) rfl (by rintro _ ⟨_,rfl⟩;rfl) ?_;rintro _ ⟨nn,rfl⟩;simp -implicitDefEqProofs(disch:=first|decide|omega)only[↓aA,aC,aB,simprocAttr,bB])
  | (refine a7 (aUE _ _) rfl (by rintro _ ⟨_,rfl⟩;rfl) ?_;rintro _ ⟨nn,rfl⟩;simp -implicitDefEqProofs(disch:=first|decide|omega)only[↓aA,aC,aB,simprocAttr,bB])
  | (refine bC (fun hb=>?_) (fun hb=>?_)<;>simp -implicitDefEqProofs(disch:=first|decide|omega)only[↓aA,aC,aB,simprocAttr,hb,bB])
  | (refine a8 (fun hb=>?_) (fun hb=>?_)<;>simp -implicitDefEqProofs(disch:=first|decide|omega)only[↓aA,aC,aB,simprocAttr,hb,bB])
def a1B:{c:CC // aJ Tryz.prog 113=c}:=⟨_,by conv=>lhs;reduce⟩
def aZU:{c:CC // bA Tryz.prog 113 {} a1B.1 []=c}:=⟨_,by conv=>lhs;reduce⟩
def aPY:CC:=(fun (c:CC) (_:(aZU.1)=c)=>c) _ (by conv=>lhs;reduce)
theorem aR5:aX Tryz.prog 113 aPY [.ce 2 27 2 true] 13:=aX.mk (by kernel_rfl) ⟨Tryz.f113,_,Tryz.func113,rfl,by kernel_rfl,by kernel_rfl,by kernel_rfl,by kernel_rfl,by kernel_rfl⟩ ⟨by kernel_rfl,trivial⟩
def a05:{c:CC // aJ Tryz.prog 174=c}:=⟨_,by conv=>lhs;reduce⟩
def aTT:{c:CC // bA Tryz.prog 174 {} a05.1 []=c}:=⟨_,by conv=>lhs;reduce⟩
def aDz:CC:=(fun (c:CC) (_:(aTT.1.aV [1,1,1,0,1,0,0])=c)=>c) _ (by conv=>lhs;reduce)
def aDA:CC:=(fun (c:CC->CC) (_:(fun a0=>(aTT.1.aV [1,1,1,0,1]).aU [0,0] a0)=c)=>c) _ (by conv=>lhs;reduce) aDz
def aPq:CC:=(fun (c:CC->CC) (_:(fun a0=>(aTT.1).aU [1,1,1,0,1] a0)=c)=>c) _ (by conv=>lhs;reduce) aDA
theorem aWi:aZ Tryz.prog 174 aPq [4] 39:=aZ.mk (by kernel_rfl) ⟨Tryz.f174,_,Tryz.func174,rfl,by kernel_rfl,by kernel_rfl,by kernel_rfl,by kernel_rfl,by kernel_rfl⟩
def a04:{c:CC // aJ Tryz.prog 175=c}:=⟨_,by conv=>lhs;reduce⟩
def aTS:{c:CC // bA Tryz.prog 175 {} a04.1 []=c}:=⟨_,by conv=>lhs;reduce⟩
def aDx:CC:=(fun (c:CC) (_:(aTS.1.aV [1,1,1,0,1,0,0])=c)=>c) _ (by conv=>lhs;reduce)
def aDy:CC:=(fun (c:CC->CC) (_:(fun a0=>(aTS.1.aV [1,1,1,0,1]).aU [0,0] a0)=c)=>c) _ (by conv=>lhs;reduce) aDx
def aPp:CC:=(fun (c:CC->CC) (_:(fun a0=>(aTS.1).aU [1,1,1,0,1] a0)=c)=>c) _ (by conv=>lhs;reduce) aDy
theorem aWh:aZ Tryz.prog 175 aPp [2] 27:=aZ.mk (by kernel_rfl) ⟨Tryz.f175,_,Tryz.func175,rfl,by kernel_rfl,by kernel_rfl,by kernel_rfl,by kernel_rfl,by kernel_rfl⟩
def a0V:{c:CC // aJ Tryz.prog 184=c}:=⟨_,by conv=>lhs;reduce⟩
def aTO:{c:CC // bA Tryz.prog 184 {} a0V.1 [([1,0,0],(.f [0,1,3,5,2,6,8,2004,2007,2009,10])),([1,1,0,1,0,0,1,0,0,1,0],(.f [0,1,2,3,4,5,6,7,8,9,10,11,12,14,16,13,17,19,2015,2018,2020,21,22]))]=c}:=⟨_,by conv=>lhs;reduce⟩
def aDh:CC:=(fun (c:CC) (_:(aTO.1.aV [1,1,0,1,0,0])=c)=>c) _ (by conv=>lhs;reduce)
def aDi:CC:=(fun (c:CC->CC) (_:(fun a0=>(aTO.1.aV [1,1,0,1]).aU [0,0] a0)=c)=>c) _ (by conv=>lhs;reduce) aDh
def aPh:CC:=(fun (c:CC->CC) (_:(fun a0=>(aTO.1).aU [1,1,0,1] a0)=c)=>c) _ (by conv=>lhs;reduce) aDi
theorem aWc:aZ Tryz.prog 184 aPh [10] 58:=aZ.mk (by kernel_rfl) ⟨Tryz.f184,_,Tryz.func184,rfl,by kernel_rfl,by kernel_rfl,by kernel_rfl,by kernel_rfl,by kernel_rfl⟩
def a0U:{c:CC // aJ Tryz.prog 191=c}:=⟨_,by conv=>lhs;reduce⟩
def aTN:{c:CC // bA Tryz.prog 191 {} a0U.1 []=c}:=⟨_,by conv=>lhs;reduce⟩
def aDf:CC:=(fun (c:CC) (_:(aTN.1.aV [1,1,1,0,1,0,0])=c)=>c) _ (by conv=>lhs;reduce)
def aDg:CC:=(fun (c:CC->CC) (_:(fun a0=>(aTN.1.aV [1,1,1,0,1]).aU [0,0] a0)=c)=>c) _ (by conv=>lhs;reduce) aDf
def aPg:CC:=(fun (c:CC->CC) (_:(fun a0=>(aTN.1).aU [1,1,1,0,1] a0)=c)=>c) _ (by conv=>lhs;reduce) aDg
theorem aWb:aZ Tryz.prog 191 aPg [2,3] 49:=aZ.mk (by kernel_rfl) ⟨Tryz.f191,_,Tryz.func191,rfl,by kernel_rfl,by kernel_rfl,by kernel_rfl,by kernel_rfl,by kernel_rfl⟩
def a0T:{c:CC // aJ Tryz.prog 192=c}:=⟨_,by conv=>lhs;reduce⟩
def aTM:{c:CC // bA Tryz.prog 192 {} a0T.1 []=c}:=⟨_,by conv=>lhs;reduce⟩
def aDd:CC:=(fun (c:CC) (_:(aTM.1.aV [1,1,0,0,0])=c)=>c) _ (by conv=>lhs;reduce)
def aDe:CC:=(fun (c:CC->CC) (_:(fun a0=>(aTM.1.aV [1,1,0]).aU [0,0] a0)=c)=>c) _ (by conv=>lhs;reduce) aDd
def aPf:CC:=(fun (c:CC->CC) (_:(fun a0=>(aTM.1).aU [1,1,0] a0)=c)=>c) _ (by conv=>lhs;reduce) aDe
theorem aRU:aX Tryz.prog 192 aPf [.ce 2 136 2 true,.tm 3] 48:=aX.mk (by kernel_rfl) ⟨Tryz.f192,_,Tryz.func192,rfl,by kernel_rfl,by kernel_rfl,by kernel_rfl,by kernel_rfl,by kernel_rfl⟩ ⟨by kernel_rfl,trivial⟩
def a0L:{c:CC // aJ Tryz.prog 200=c}:=⟨_,by conv=>lhs;reduce⟩
def aTI:{c:CC // bA Tryz.prog 200 {} a0L.1 []=c}:=⟨_,by conv=>lhs;reduce⟩
def aC1:CC:=(fun (c:CC) (_:(aTI.1.aV [1,1,0,1,0,0])=c)=>c) _ (by conv=>lhs;reduce)
def aC2:CC:=(fun (c:CC->CC) (_:(fun a0=>(aTI.1.aV [1,1,0,1]).aU [0,0] a0)=c)=>c) _ (by conv=>lhs;reduce) aC1
def aO7:CC:=(fun (c:CC->CC) (_:(fun a0=>(aTI.1).aU [1,1,0,1] a0)=c)=>c) _ (by conv=>lhs;reduce) aC2
theorem aV7:aZ Tryz.prog 200 aO7 [6] 30:=aZ.mk (by kernel_rfl) ⟨Tryz.f200,_,Tryz.func200,rfl,by kernel_rfl,by kernel_rfl,by kernel_rfl,by kernel_rfl,by kernel_rfl⟩
def a0K:{c:CC // aJ Tryz.prog 201=c}:=⟨_,by conv=>lhs;reduce⟩
def aKv:{c:CC // bA Tryz.prog 201 { fz:=[(true,58,[58])] } a0K.1 [([1,1,0],(.f [1,3,0,2,2004,5,2006,7]))]=c}:=⟨_,by conv=>lhs;reduce⟩
def aCY:CC:=(fun (c:CC) (_:(aKv.1.aV [1,1,1,0,1,0,0,1,0,0,1,0,0,0])=c)=>c) _ (by conv=>lhs;reduce)
def aC0:CC:=(fun (c:CC->CC) (_:(fun a0=>(aKv.1.aV [1,1,1,0,1,0,0,1,0,0,1,0]).aU [0,0] a0)=c)=>c) _ (by conv=>lhs;reduce) aCY
def aCX:CC:=(fun (c:CC->CC) (_:(fun a0=>(aKv.1.aV [1,1,1,0,1,0,0]).aU [1,0,0,1,0] a0)=c)=>c) _ (by conv=>lhs;reduce) aC0
def aCZ:CC:=(fun (c:CC->CC) (_:(fun a0=>(aKv.1.aV [1,1,1,0,1]).aU [0,0] a0)=c)=>c) _ (by conv=>lhs;reduce) aCX
def aO6:CC:=(fun (c:CC->CC) (_:(fun a0=>(aKv.1).aU [1,1,1,0,1] a0)=c)=>c) _ (by conv=>lhs;reduce) aCZ
theorem aV6:aZ Tryz.prog 201 aO6 [4] 60:=aZ.mk (by kernel_rfl) ⟨Tryz.f201,_,Tryz.func201,rfl,by kernel_rfl,by kernel_rfl,by kernel_rfl,by kernel_rfl,by kernel_rfl⟩
def a0J:{c:CC // aJ Tryz.prog 202=c}:=⟨_,by conv=>lhs;reduce⟩
def aKu:{c:CC // bA Tryz.prog 202 {} a0J.1 [([1,0],(.f [1,2,6,7,0,5,2003,4,2008,9,10,11]))]=c}:=⟨_,by conv=>lhs;reduce⟩
def aCU:CC:=(fun (c:CC) (_:(aKu.1.aV [1,1,0,1,0,0,1,0,0,1,1,0,0])=c)=>c) _ (by conv=>lhs;reduce)
def aCW:CC:=(fun (c:CC->CC) (_:(fun a0=>(aKu.1.aV [1,1,0,1,0,0,1,0,0,1,1]).aU [0,0] a0)=c)=>c) _ (by conv=>lhs;reduce) aCU
def aCT:CC:=(fun (c:CC->CC) (_:(fun a0=>(aKu.1.aV [1,1,0,1,0,0]).aU [1,0,0,1,1] a0)=c)=>c) _ (by conv=>lhs;reduce) aCW
def aCV:CC:=(fun (c:CC->CC) (_:(fun a0=>(aKu.1.aV [1,1,0,1]).aU [0,0] a0)=c)=>c) _ (by conv=>lhs;reduce) aCT
def aO5:CC:=(fun (c:CC->CC) (_:(fun a0=>(aKu.1).aU [1,1,0,1] a0)=c)=>c) _ (by conv=>lhs;reduce) aCV
theorem aV5:aZ Tryz.prog 202 aO5 [6] 81:=aZ.mk (by kernel_rfl) ⟨Tryz.f202,_,Tryz.func202,rfl,by kernel_rfl,by kernel_rfl,by kernel_rfl,by kernel_rfl,by kernel_rfl⟩
def a0I:{c:CC // aJ Tryz.prog 203=c}:=⟨_,by conv=>lhs;reduce⟩
def aTH:{c:CC // bA Tryz.prog 203 {} a0I.1 []=c}:=⟨_,by conv=>lhs;reduce⟩
def aCR:CC:=(fun (c:CC) (_:(aTH.1.aV [1,1,0,1,0,0])=c)=>c) _ (by conv=>lhs;reduce)
def aCS:CC:=(fun (c:CC->CC) (_:(fun a0=>(aTH.1.aV [1,1,0,1]).aU [0,0] a0)=c)=>c) _ (by conv=>lhs;reduce) aCR
def aO4:CC:=(fun (c:CC->CC) (_:(fun a0=>(aTH.1).aU [1,1,0,1] a0)=c)=>c) _ (by conv=>lhs;reduce) aCS
theorem aV4:aZ Tryz.prog 203 aO4 [8] 56:=aZ.mk (by kernel_rfl) ⟨Tryz.f203,_,Tryz.func203,rfl,by kernel_rfl,by kernel_rfl,by kernel_rfl,by kernel_rfl,by kernel_rfl⟩
def a0C:{c:CC // aJ Tryz.prog 213=c}:=⟨_,by conv=>lhs;reduce⟩
def aZA:{c:CC // bA Tryz.prog 213 {} a0C.1 [([1,0],(.f [1,2,5,9,10,0,3,6,8,11,2004,2007,2012,2013,14]))]=c}:=⟨_,by conv=>lhs;reduce⟩
def aOY:CC:=(fun (c:CC) (_:(aZA.1)=c)=>c) _ (by conv=>lhs;reduce)
theorem aV1:aZ Tryz.prog 213 aOY [6] 21:=aZ.mk (by kernel_rfl) ⟨Tryz.f213,_,Tryz.func213,rfl,by kernel_rfl,by kernel_rfl,by kernel_rfl,by kernel_rfl,by kernel_rfl⟩
def a0B:{c:CC // aJ Tryz.prog 214=c}:=⟨_,by conv=>lhs;reduce⟩
def aZz:{c:CC // bA Tryz.prog 214 {} a0B.1 [([1,0],(.f [1,2,3,6,7,0,5,2004,2008,2009,10]))]=c}:=⟨_,by conv=>lhs;reduce⟩
def aOX:CC:=(fun (c:CC) (_:(aZz.1)=c)=>c) _ (by conv=>lhs;reduce)
theorem aV0:aZ Tryz.prog 214 aOX [8] 19:=aZ.mk (by kernel_rfl) ⟨Tryz.f214,_,Tryz.func214,rfl,by kernel_rfl,by kernel_rfl,by kernel_rfl,by kernel_rfl,by kernel_rfl⟩
def a0f:{c:CC // aJ Tryz.prog 238=c}:=⟨_,by conv=>lhs;reduce⟩
def aTs:{c:CC // bA Tryz.prog 238 {} a0f.1 []=c}:=⟨_,by conv=>lhs;reduce⟩
def aCh:CC:=(fun (c:CC) (_:(aTs.1.aV [1,1,0,1,0,0])=c)=>c) _ (by conv=>lhs;reduce)
def aCi:CC:=(fun (c:CC->CC) (_:(fun a0=>(aTs.1.aV [1,1,0,1]).aU [0,0] a0)=c)=>c) _ (by conv=>lhs;reduce) aCh
def aOC:CC:=(fun (c:CC->CC) (_:(fun a0=>(aTs.1).aU [1,1,0,1] a0)=c)=>c) _ (by conv=>lhs;reduce) aCi
theorem aVP:aZ Tryz.prog 238 aOC [4] 21:=aZ.mk (by kernel_rfl) ⟨Tryz.f238,_,Tryz.func238,rfl,by kernel_rfl,by kernel_rfl,by kernel_rfl,by kernel_rfl,by kernel_rfl⟩
end Go.Proofs.YtakemdamegfcfaaGreat
