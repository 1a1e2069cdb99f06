/- A part of a proof: what functions of the program compute. No condition. -/
import Derived.Test.YtakemdamegfcfaaGreatT50
import Derived.Test.YtakemdamegfcfaaGreatT21
import Derived.Test.YtakemdamegfcfaaGreatProg
import Derived.KernelRfl
import Derived.Test.YtakemdamegfcfaaGreatT6
import Derived.Test.YtakemdamegfcfaaGreatT46
import Derived.Test.YtakemdamegfcfaaGreatT36
import Derived.Test.YtakemdamegfcfaaGreatT48
import Derived.Test.YtakemdamegfcfaaGreatT47
set_option linter.unusedSimpArgs false
set_option linter.unusedVariables false
set_option maxRecDepth 100000
namespace Go.Proofs.YtakemdamegfcfaaGreat
open Go Go.Ab
theorem a1O {b:Bool} {ks xs:List AV} {K:AV->Prop} (hs:eC ks xs xs=some true) (h:K (.bool (if b then !true else true))):aGO b ks (.agg xs) (.agg xs) K:=⟨true,hs,h⟩
theorem a2q {b:Bool} {K:AV->Prop} (a:Node) (h:K (.bool (if b then !true else true))):aGO b [.int .i64 0,.int .i64 0,.int .i64 0,.int .i64 0,.int .i64 0,.int .i64 0,.int .i64 0,.bool false] (bO a) (bO a) K:=a1O (by simp [cB,eC,xH]) h
theorem a2s {b:Bool} {K:AV->Prop} (a:bD) (h:K (.bool (if b then !true else true))):aGO b [.int .i64 0,.int .i64 0,.int .i64 0,.int .i64 0,.int .i64 0,.int .i64 0,.int .i64 0,.bool false,.int .i64 0] (bY a) (bY a) K:=a1O (by simp [cE,eC,xH]) h
theorem a2o {b:Bool} {K:AV->Prop} (a:dY) (h:K (.bool (if b then !true else true))):aGO b [.int .i64 0,.int .i64 0,.int .i64 0] (gW a) (gW a) K:=a1O (by simp [gF,eC,xH]) h
theorem a2p {b:Bool} {K:AV->Prop} (a:dR) (h:K (.bool (if b then !true else true))):aGO b [.int .i64 0,.int .i64 0,.int .i64 0,.int .i64 0,.int .i64 0,.int .i64 0] (eD a) (eD a) K:=a1O (by simp [fA,eC,xH]) h
theorem a2r {b:Bool} {K:AV->Prop} (a:Ask) (h:K (.bool (if b then !true else true))):aGO b [.int .i64 0,.int .i64 0,.int .i64 0,.int .i64 0,.int .i64 0,.int .i64 0,.int .i64 0,.int .i64 0] (ASK a) (ASK a) K:=a1O (by simp [fC,eC,xH]) h
theorem a2j {b:Bool} {K:AV->Prop} (a:Cap) (h:K (.bool (if b then !true else true))):aGO b [.int .i64 0,.int .i64 0] (CAP a) (CAP a) K:=a1O (by simp [mP,eC,xH]) h
theorem a1P (l:List Int) (hl:l.length<2^62):aT Tryz.prog 129 [.sl false 1 (l.map I64),.sl false 1 (l.map I64)] (.bool true):=by
 unfold aT
 refine aK a2t (by simp) ?_
 unfold a2l
 simp -implicitDefEqProofs(disch:=first|decide|omega)only[↓aA,aC,aB,simprocAttr,x8,beq_self_eq_true,bne_self_eq_false,Bool.not_true,Bool.not_false,Bool.and_self]
 unfold a1W
 simp -implicitDefEqProofs(disch:=first|decide|omega)only[↓aA,aC,aB,simprocAttr,x8]
 refine aF (σ:=Nat) (fun k=>⟨[(0,.sl false 1 (l.map I64)),(1,.sl false 1 (l.map I64)),(5,.int .i64 (k:Int))],[]⟩) (fun k=>k<=l.length) (fun k=>l.length-k) 0 ?_ (by omega) ?_
 · first|exact .inl rfl|(refine Sub.of0 [some 0,some 1] rfl ?_ rfl ?_<;>repeat' first|trivial|rfl|exact .inl rfl|exact .inr ⟨rfl,_,_,rfl⟩|(simp;done)|(simp;omega)|refine And.intro ?_ ?_)
 intro k hk
 unfold a1V
 by_cases hkl:k<l.length
 · have hg:l.getD k default=l[k]:=by simp [hkl]
   simp -implicitDefEqProofs(disch:=first|decide|omega)only[↓aA,aC,aB,simprocAttr,x8,I64,beq_self_eq_true,bne_self_eq_false,Bool.not_true,Bool.not_false,Bool.and_self,hg]
   repeat' first
    | with_reducible apply And.intro
    | omega
    | exact ⟨k+1,.inl rfl,by omega,by omega⟩
 have hke:k=l.length:=by omega
 subst hke
 simp -implicitDefEqProofs(disch:=first|decide|omega)only[↓aA,aC,aB,simprocAttr,x8,I64,beq_self_eq_true,bne_self_eq_false,Bool.not_true,Bool.not_false,Bool.and_self]
theorem a1R (a:App) (h1:a.asks.length<2^38) (h2:a.grants.length<2^62) (h3:a.kills.length<2^62) (h4:a.told.length<2^62) (h5:a.lost.length<2^62):aT Tryz.prog 66 [APP a,APP a] (.bool true):=by
 unfold aT
 refine aK a2z (by simp) ?_
 unfold a2u
 simp -implicitDefEqProofs(disch:=first|decide|omega)only[↓aA,aC,aB,simprocAttr,x8,bB,a9,beq_self_eq_true,bne_self_eq_false,Bool.not_true,Bool.not_false,Bool.and_self]
 refine a2j ⟨_,_⟩ ?_
 simp -implicitDefEqProofs(disch:=first|decide|omega)only[↓aA,aC,aB,simprocAttr,x8,bB,a9,beq_self_eq_true,bne_self_eq_false,Bool.not_true,Bool.not_false,Bool.and_self,if_true]
 unfold a10
 simp -implicitDefEqProofs(disch:=first|decide|omega)only[↓aA,aC,aB,simprocAttr,x8]
 refine aF (σ:=Nat) (fun k=>⟨[(2,.ref 0 0 0),(3,.ref 1 0 0),(5,.int .i64 (k:Int))],[.box (bI a),.box (bI a)]⟩) (fun k=>k<=a.asks.length) (fun k=>a.asks.length-k) 0 ?_ (by omega) ?_
 · first|exact .inl rfl|(refine Sub.of0 [some 0,some 1] rfl ?_ rfl ?_<;>repeat' first|trivial|rfl|exact .inl rfl|exact .inr ⟨rfl,_,_,rfl⟩|(simp;done)|(simp;omega)|refine And.intro ?_ ?_)
 intro k hk
 unfold a1Z
 by_cases hkl:k<a.asks.length
 · have hg:a.asks.getD k default=a.asks[k]:=by simp [hkl]
   simp -implicitDefEqProofs(disch:=first|decide|omega)only[↓aA,aC,aB,simprocAttr,x8,a9,bF,beq_self_eq_true,bne_self_eq_false,Bool.not_true,Bool.not_false,Bool.and_self,hg]
   repeat' first
    | with_reducible apply And.intro
    | omega
    | exact ⟨k+1,.inl rfl,by omega,by omega⟩
    | (refine a2r _ ?_;simp -implicitDefEqProofs(disch:=first|decide|omega)only[↓aA,aC,aB,simprocAttr,x8,a9,bF,beq_self_eq_true,bne_self_eq_false,Bool.not_true,Bool.not_false,Bool.and_self,if_true,if_false,Bool.false_eq_true])
 have hke:k=a.asks.length:=by omega
 subst hke
 simp -implicitDefEqProofs(disch:=first|decide|omega)only[↓aA,aC,aB,simprocAttr,x8,a9,bF,beq_self_eq_true,bne_self_eq_false,Bool.not_true,Bool.not_false,Bool.and_self]
 refine aE (aI.of (aM:=false) (a1P a.grants h2) (.refl rfl) rfl (by simp)) ?_
 simp -implicitDefEqProofs(disch:=first|decide|omega)only[↓aA,aC,aB,simprocAttr,x8,a9]
 refine aE (aI.of (aM:=false) (a1P a.kills h3) (.refl rfl) rfl (by simp)) ?_
 simp -implicitDefEqProofs(disch:=first|decide|omega)only[↓aA,aC,aB,simprocAttr,x8,a9]
 refine aE (aI.of (aM:=false) (a1P a.told h4) (.refl rfl) rfl (by simp)) ?_
 simp -implicitDefEqProofs(disch:=first|decide|omega)only[↓aA,aC,aB,simprocAttr,x8,a9]
 refine aE (aI.of (aM:=false) (a1P a.lost h5) (.refl rfl) rfl (by simp)) ?_
 simp -implicitDefEqProofs(disch:=first|decide|omega)only[↓aA,aC,aB,simprocAttr,x8,a9]
set_option maxHeartbeats 1000000 in
theorem a1Y (ls:List (List UInt8)) (qs:List Queue) (h:QZ qs) (hl:ls.length<2^38):aT Tryz.prog 65 [.agg (bN ls qs),.agg (bN ls qs)] (.bool true):=by
 have hql:=h.l
 unfold aT
 refine aK a2A (by simp) ?_
 unfold a2v bN
 simp -implicitDefEqProofs(disch:=first|decide|omega)only[↓aA,aC,aB,simprocAttr,x8,bB,beq_self_eq_true,bne_self_eq_false,Bool.not_true,Bool.not_false,Bool.and_self]
 unfold a14
 simp -implicitDefEqProofs(disch:=first|decide|omega)only[↓aA,aC,aB,simprocAttr,x8]
 refine aF (σ:=Nat) (fun k=>⟨[(2,.ref 0 0 0),(3,.ref 1 0 0),(5,.int .i64 (k:Int))],[.box (bN ls qs),.box (bN ls qs)]⟩) (fun k=>k<=ls.length) (fun k=>ls.length-k) 0 ?_ (by omega) ?_
 · first|exact .inl rfl|(refine Sub.of0 [some 0,some 1] rfl ?_ rfl ?_<;>repeat' first|trivial|rfl|exact .inl rfl|exact .inr ⟨rfl,_,_,rfl⟩|(simp;done)|(simp;omega)|refine And.intro ?_ ?_)
 intro k hk
 unfold a11
 by_cases hkl:k<ls.length
 · have hg:ls.getD k default=ls[k]:=by simp [hkl]
   simp -implicitDefEqProofs(disch:=first|decide|omega)only[↓aA,aC,aB,simprocAttr,x8,bB,bN,beq_self_eq_true,bne_self_eq_false,Bool.not_true,Bool.not_false,Bool.and_self,hg]
   repeat' first
    | with_reducible apply And.intro
    | omega
    | exact ⟨k+1,.inl rfl,by omega,by omega⟩
 have hke:k=ls.length:=by omega
 subst hke
 simp -implicitDefEqProofs(disch:=first|decide|omega)only[↓aA,aC,aB,simprocAttr,x8,bB,bN,beq_self_eq_true,bne_self_eq_false,Bool.not_true,Bool.not_false,Bool.and_self]
 unfold a15
 simp -implicitDefEqProofs(disch:=first|decide|omega)only[↓aA,aC,aB,simprocAttr,x8]
 refine aF (σ:=Nat) (fun k=>⟨[(2,.ref 0 0 0),(3,.ref 1 0 0),(6,.int .i64 (k:Int))],[.box (bN ls qs),.box (bN ls qs)]⟩) (fun k=>k<=qs.length) (fun k=>qs.length-k) 0 ?_ (by omega) ?_
 · unfold bN;(refine Sub.of0 [some 0,some 1] rfl ?_ rfl ?_<;>repeat' first|trivial|rfl|exact .inl rfl|exact .inr ⟨rfl,_,_,rfl⟩|(simp;done)|(simp;omega)|refine And.intro ?_ ?_)
 intro k hk
 unfold a12
 by_cases hkl:k<qs.length
 case neg =>
  simp -implicitDefEqProofs(disch:=first|decide|omega)only[↓aA,aC,aB,simprocAttr,x8,bB,bN,beq_self_eq_true,bne_self_eq_false,Bool.not_true,Bool.not_false,Bool.and_self]
 have hg:qs.getD k default=qs[k]:=by simp [hkl]
 have hc:=h.c _ (List.getElem_mem hkl)
 generalize qs[k]=q at hg hc
 simp -implicitDefEqProofs(disch:=first|decide|omega)only[↓aA,aC,aB,simprocAttr,x8,bB,bW,bN,beq_self_eq_true,bne_self_eq_false,Bool.not_true,Bool.not_false,Bool.and_self,hg]
 repeat' first
  | with_reducible apply And.intro
  | omega
 all_goals
  unfold a16
  simp -implicitDefEqProofs(disch:=first|decide|omega)only[↓aA,aC,aB,simprocAttr,x8]
  refine aF (σ:=Nat) (fun j=>⟨[(2,.ref 0 0 0),(3,.ref 1 0 0),(6,.int .i64 (k:Int)),(7,.ref 2 0 0),(8,.ref 3 0 0),(9,.int .i64 (j:Int))],[.box (bN ls qs),.box (bN ls qs),.box (jU q),.box (jU q)]⟩) (fun j=>j<=q.caps.length) (fun j=>q.caps.length-j) 0 ?_ (by omega) ?_
  · first|exact .inl rfl|(unfold bN;(refine Sub.of0 [some 0,some 1,some 2,some 3] rfl ?_ rfl ?_<;>repeat' first|trivial|rfl|exact .inl rfl|exact .inr ⟨rfl,_,_,rfl⟩|(simp;done)|(simp;omega)|refine And.intro ?_ ?_);done)|(unfold bN;(refine Sub.of0 [some 0,some 1,some 3,some 2] rfl ?_ rfl ?_<;>repeat' first|trivial|rfl|exact .inl rfl|exact .inr ⟨rfl,_,_,rfl⟩|(simp;done)|(simp;omega)|refine And.intro ?_ ?_);done)
  intro j hj
  unfold a13
  by_cases hjl:j<q.caps.length
  · have hgj:q.caps.getD j default=q.caps[j]:=by simp [hjl]
    simp -implicitDefEqProofs(disch:=first|decide|omega)only[↓aA,aC,aB,simprocAttr,x8,bB,bW,kH,bN,beq_self_eq_true,bne_self_eq_false,Bool.not_true,Bool.not_false,Bool.and_self,hgj]
    repeat' first
     | with_reducible apply And.intro
     | omega
     | exact ⟨j+1,.inl rfl,by omega,by omega⟩
     | (refine a2j _ ?_;simp -implicitDefEqProofs(disch:=first|decide|omega)only[↓aA,aC,aB,simprocAttr,x8,bB,bW,kH,bN,beq_self_eq_true,bne_self_eq_false,Bool.not_true,Bool.not_false,Bool.and_self,if_true])
  · simp -implicitDefEqProofs(disch:=first|decide|omega)only[↓aA,aC,aB,simprocAttr,x8,bB,bW,bN,beq_self_eq_true,bne_self_eq_false,Bool.not_true,Bool.not_false,Bool.and_self]
    repeat' first
     | with_reducible apply And.intro
     | omega
     | (refine ⟨k+1,?_,by omega,by omega⟩;first|exact .inl rfl|(refine Sub.of0 [some 0,some 1] rfl ?_ rfl ?_<;>repeat' first|trivial|rfl|exact .inl rfl|exact .inr ⟨rfl,_,_,rfl⟩|(simp;done)|(simp;omega)|refine And.intro ?_ ?_))
set_option maxHeartbeats 2000000 in
theorem a2h (s:Sta) (hq:QZ s.qs) (hl:s.labels.length<2^38) (hn:s.nodes.length<2^38) (ha:s.apps.length<2^38) (hc:s.conts.length<2^38) (hs:s.slots.length<2^38) (hp:s.plans.length<2^38) (hA:∀ a∈s.apps,a.asks.length<2^38/\a.grants.length<2^62/\a.kills.length<2^62/\a.told.length<2^62/\a.lost.length<2^62):aT Tryz.prog 19 [.agg (stC s),.agg (stC s)] (.bool true):=by
 have c65:=a1Y s.labels s.qs hq hl
 unfold bN at c65
 unfold aT
 refine aK a2B (by simp) ?_
 unfold a2w
 simp -implicitDefEqProofs(disch:=first|decide|omega)only[↓aA,aC,aB,simprocAttr,x8,bB]
 refine aE (aI.of (aM:=false) (c65) (.refl rfl) rfl (by simp)) ?_
 simp -implicitDefEqProofs(disch:=first|decide|omega)only[↓aA,aC,aB,simprocAttr,x8,bB,beq_self_eq_true,bne_self_eq_false,Bool.not_true,Bool.not_false,Bool.and_self]
 unfold a2c
 simp -implicitDefEqProofs(disch:=first|decide|omega)only[↓aA,aC,aB,simprocAttr,x8]
 refine aF (σ:=Nat) (fun k=>⟨[(2,.ref 0 0 0),(3,.ref 1 0 0),(5,.bool true),(6,.int .i64 (k:Int))],[.box (stC s),.box (stC s)]⟩) (fun k=>k<=s.nodes.length) (fun k=>s.nodes.length-k) 0 ?_ (by omega) ?_
 · first|exact .inl rfl|(refine Sub.of0 [some 0,some 1] rfl ?_ rfl ?_<;>repeat' first|trivial|rfl|exact .inl rfl|exact .inr ⟨rfl,_,_,rfl⟩|(simp;done)|(simp;omega)|refine And.intro ?_ ?_)
 intro k hk
 unfold a17
 by_cases hkl:k<s.nodes.length
 · have hg:s.nodes.getD k default=s.nodes[k]:=by simp [hkl]
   simp -implicitDefEqProofs(disch:=first|decide|omega)only[↓aA,aC,aB,simprocAttr,x8,bB,aN,beq_self_eq_true,bne_self_eq_false,Bool.not_true,Bool.not_false,Bool.and_self,hg]
   repeat' first
    | with_reducible apply And.intro
    | omega
    | exact ⟨k+1,.inl rfl,by omega,by omega⟩
    | (refine a2q _ ?_;simp -implicitDefEqProofs(disch:=first|decide|omega)only[↓aA,aC,aB,simprocAttr,x8,bB,aN,beq_self_eq_true,bne_self_eq_false,Bool.not_true,Bool.not_false,Bool.and_self,if_true,if_false,Bool.false_eq_true])
 have hke:k=s.nodes.length:=by omega
 subst hke
 simp -implicitDefEqProofs(disch:=first|decide|omega)only[↓aA,aC,aB,simprocAttr,x8,bB,aN,beq_self_eq_true,bne_self_eq_false,Bool.not_true,Bool.not_false,Bool.and_self]
 unfold a2d
 simp -implicitDefEqProofs(disch:=first|decide|omega)only[↓aA,aC,aB,simprocAttr,x8]
 refine aF (σ:=Nat) (fun k=>⟨[(2,.ref 0 0 0),(3,.ref 1 0 0),(5,.bool true),(7,.int .i64 (k:Int))],[.box (stC s),.box (stC s)]⟩) (fun k=>k<=s.apps.length) (fun k=>s.apps.length-k) 0 ?_ (by omega) ?_
 · first|exact .inl rfl|(refine Sub.of0 [some 0,some 1] rfl ?_ rfl ?_<;>repeat' first|trivial|rfl|exact .inl rfl|exact .inr ⟨rfl,_,_,rfl⟩|(simp;done)|(simp;omega)|refine And.intro ?_ ?_)
 intro k hk
 unfold a18
 by_cases hkl:k<s.apps.length
 · have hAk:=hA _ (List.getElem_mem hkl)
   have hg:s.apps.getD k default=s.apps[k]:=by simp [hkl]
   simp -implicitDefEqProofs(disch:=first|decide|omega)only[↓aA,aC,aB,simprocAttr,x8,bB,a9,beq_self_eq_true,bne_self_eq_false,Bool.not_true,Bool.not_false,Bool.and_self,hg]
   repeat' first
    | with_reducible apply And.intro
    | omega
    | exact ⟨k+1,.inl rfl,by omega,by omega⟩
    | (refine aE (aI.of (aM:=false) (a1R _ hAk.1 hAk.2.1 hAk.2.2.1 hAk.2.2.2.1 hAk.2.2.2.2) (.refl rfl) rfl (by simp)) ?_;simp -implicitDefEqProofs(disch:=first|decide|omega)only[↓aA,aC,aB,simprocAttr,x8,bB,a9,beq_self_eq_true,bne_self_eq_false,Bool.not_true,Bool.not_false,Bool.and_self])
    | (refine bP (a1R _ hAk.1 hAk.2.1 hAk.2.2.1 hAk.2.2.2.1 hAk.2.2.2.2) rfl rfl ?_;simp -implicitDefEqProofs(disch:=first|decide|omega)only[↓aA,aC,aB,simprocAttr,x8,bB,a9,beq_self_eq_true,bne_self_eq_false,Bool.not_true,Bool.not_false,Bool.and_self])
 have hke:k=s.apps.length:=by omega
 subst hke
 simp -implicitDefEqProofs(disch:=first|decide|omega)only[↓aA,aC,aB,simprocAttr,x8,bB,a9,beq_self_eq_true,bne_self_eq_false,Bool.not_true,Bool.not_false,Bool.and_self]
 unfold a2e
 simp -implicitDefEqProofs(disch:=first|decide|omega)only[↓aA,aC,aB,simprocAttr,x8]
 refine aF (σ:=Nat) (fun k=>⟨[(2,.ref 0 0 0),(3,.ref 1 0 0),(5,.bool true),(8,.int .i64 (k:Int))],[.box (stC s),.box (stC s)]⟩) (fun k=>k<=s.conts.length) (fun k=>s.conts.length-k) 0 ?_ (by omega) ?_
 · first|exact .inl rfl|(refine Sub.of0 [some 0,some 1] rfl ?_ rfl ?_<;>repeat' first|trivial|rfl|exact .inl rfl|exact .inr ⟨rfl,_,_,rfl⟩|(simp;done)|(simp;omega)|refine And.intro ?_ ?_)
 intro k hk
 unfold a19
 by_cases hkl:k<s.conts.length
 · have hg:s.conts.getD k default=s.conts[k]:=by simp [hkl]
   simp -implicitDefEqProofs(disch:=first|decide|omega)only[↓aA,aC,aB,simprocAttr,x8,bB,aY,beq_self_eq_true,bne_self_eq_false,Bool.not_true,Bool.not_false,Bool.and_self,hg]
   repeat' first
    | with_reducible apply And.intro
    | omega
    | exact ⟨k+1,.inl rfl,by omega,by omega⟩
    | (refine a2s _ ?_;simp -implicitDefEqProofs(disch:=first|decide|omega)only[↓aA,aC,aB,simprocAttr,x8,bB,aY,beq_self_eq_true,bne_self_eq_false,Bool.not_true,Bool.not_false,Bool.and_self,if_true,if_false,Bool.false_eq_true])
 have hke:k=s.conts.length:=by omega
 subst hke
 simp -implicitDefEqProofs(disch:=first|decide|omega)only[↓aA,aC,aB,simprocAttr,x8,bB,aY,beq_self_eq_true,bne_self_eq_false,Bool.not_true,Bool.not_false,Bool.and_self]
 unfold a2f
 simp -implicitDefEqProofs(disch:=first|decide|omega)only[↓aA,aC,aB,simprocAttr,x8]
 refine aF (σ:=Nat) (fun k=>⟨[(2,.ref 0 0 0),(3,.ref 1 0 0),(5,.bool true),(9,.int .i64 (k:Int))],[.box (stC s),.box (stC s)]⟩) (fun k=>k<=s.slots.length) (fun k=>s.slots.length-k) 0 ?_ (by omega) ?_
 · first|exact .inl rfl|(refine Sub.of0 [some 0,some 1] rfl ?_ rfl ?_<;>repeat' first|trivial|rfl|exact .inl rfl|exact .inr ⟨rfl,_,_,rfl⟩|(simp;done)|(simp;omega)|refine And.intro ?_ ?_)
 intro k hk
 unfold a2a
 by_cases hkl:k<s.slots.length
 · have hg:s.slots.getD k default=s.slots[k]:=by simp [hkl]
   simp -implicitDefEqProofs(disch:=first|decide|omega)only[↓aA,aC,aB,simprocAttr,x8,bB,cU,beq_self_eq_true,bne_self_eq_false,Bool.not_true,Bool.not_false,Bool.and_self,hg]
   repeat' first
    | with_reducible apply And.intro
    | omega
    | exact ⟨k+1,.inl rfl,by omega,by omega⟩
    | (refine a2o _ ?_;simp -implicitDefEqProofs(disch:=first|decide|omega)only[↓aA,aC,aB,simprocAttr,x8,bB,cU,beq_self_eq_true,bne_self_eq_false,Bool.not_true,Bool.not_false,Bool.and_self,if_true,if_false,Bool.false_eq_true])
 have hke:k=s.slots.length:=by omega
 subst hke
 simp -implicitDefEqProofs(disch:=first|decide|omega)only[↓aA,aC,aB,simprocAttr,x8,bB,cU,beq_self_eq_true,bne_self_eq_false,Bool.not_true,Bool.not_false,Bool.and_self]
 unfold a2g
 simp -implicitDefEqProofs(disch:=first|decide|omega)only[↓aA,aC,aB,simprocAttr,x8]
 refine aF (σ:=Nat) (fun k=>⟨[(2,.ref 0 0 0),(3,.ref 1 0 0),(5,.bool true),(10,.int .i64 (k:Int))],[.box (stC s),.box (stC s)]⟩) (fun k=>k<=s.plans.length) (fun k=>s.plans.length-k) 0 ?_ (by omega) ?_
 · first|exact .inl rfl|(refine Sub.of0 [some 0,some 1] rfl ?_ rfl ?_<;>repeat' first|trivial|rfl|exact .inl rfl|exact .inr ⟨rfl,_,_,rfl⟩|(simp;done)|(simp;omega)|refine And.intro ?_ ?_)
 intro k hk
 unfold a2b
 by_cases hkl:k<s.plans.length
 · have hg:s.plans.getD k default=s.plans[k]:=by simp [hkl]
   simp -implicitDefEqProofs(disch:=first|decide|omega)only[↓aA,aC,aB,simprocAttr,x8,bB,bG,beq_self_eq_true,bne_self_eq_false,Bool.not_true,Bool.not_false,Bool.and_self,hg]
   repeat' first
    | with_reducible apply And.intro
    | omega
    | exact ⟨k+1,.inl rfl,by omega,by omega⟩
    | (refine a2p _ ?_;simp -implicitDefEqProofs(disch:=first|decide|omega)only[↓aA,aC,aB,simprocAttr,x8,bB,bG,beq_self_eq_true,bne_self_eq_false,Bool.not_true,Bool.not_false,Bool.and_self,if_true,if_false,Bool.false_eq_true])
 have hke:k=s.plans.length:=by omega
 subst hke
 simp -implicitDefEqProofs(disch:=first|decide|omega)only[↓aA,aC,aB,simprocAttr,x8,bB,bG,beq_self_eq_true,bne_self_eq_false,Bool.not_true,Bool.not_false,Bool.and_self]
def a1T:CC:=(.seq (.reg [⟨(some 47),(.ld 10 true (.tmp 7)),none⟩,⟨(some 48),(.ld 8 true (.tmp 4)),none⟩,⟨(some 49),(.call 17 [(.tmp 47),(.tmp 48)]),none⟩,⟨(some 46),(.mv (.tmp 49)),none⟩,⟨(some 50),(.ext 0 (.tmp 46)),none⟩,⟨(some 51),(.ext 1 (.tmp 46)),none⟩,⟨(some 8),(.al [.aD,.aD,.aD,.aD,.aD,.aD,.aD,(.int .i64 0),(.int .i64 0),(.int .i64 0)]),none⟩,⟨none,(.st 10 (.tmp 8) (.tmp 50)),none⟩,⟨(some 9),(.mv (.tmp 51)),none⟩] false [] (some [4,7,8,9])) (.seq (.reg [⟨(some 53),(.ld 10 true (.tmp 7)),none⟩,⟨(some 54),(.ld 8 true (.tmp 4)),none⟩,⟨(some 55),(.call 18 [(.tmp 53),(.tmp 54)]),none⟩,⟨(some 52),(.mv (.tmp 55)),none⟩,⟨(some 56),(.ext 0 (.tmp 52)),none⟩,⟨(some 57),(.ext 1 (.tmp 52)),none⟩,⟨(some 10),(.al [.aD,.aD,.aD,.aD,.aD,.aD,.aD,(.int .i64 0),(.int .i64 0),(.int .i64 0)]),none⟩,⟨none,(.st 10 (.tmp 10) (.tmp 56)),none⟩,⟨(some 11),(.mv (.tmp 57)),none⟩] false [] (some [7,8,9,10,11])) (.seq (.reg [⟨(some 58),(.mv (.tmp 9)),none⟩,⟨(some 59),(.mv (.tmp 11)),none⟩,⟨(some 60),(.bin .eql (.tmp 58) (.tmp 59)),none⟩,⟨(some 61),(.mv (.tmp 60)),none⟩,⟨(some 62),(.ld 10 true (.tmp 8)),(some (61,true))⟩,⟨(some 63),(.ld 10 true (.tmp 10)),(some (61,true))⟩,⟨(some 64),(.call 19 [(.tmp 62),(.tmp 63)]),(some (61,true))⟩,⟨(some 65),(.pick (.tmp 61) (.tmp 64) (.const (.bool false))),none⟩,⟨(some 66),(.mv (.tmp 65)),none⟩,⟨(some 67),(.mv (.tmp 9)),(some (66,true))⟩,⟨(some 68),(.bin .eql (.tmp 67) (.const (.int .i64 0))),(some (66,true))⟩,⟨(some 69),(.mv (.tmp 68)),(some (66,true))⟩,⟨(some 70),(.ld 10 true (.tmp 8)),(some (69,false))⟩,⟨(some 71),(.ld 10 true (.tmp 7)),(some (69,false))⟩,⟨(some 72),(.call 19 [(.tmp 70),(.tmp 71)]),(some (69,false))⟩,⟨(some 73),(.pick (.tmp 69) (.const (.bool true)) (.tmp 72)),(some (66,true))⟩,⟨(some 74),(.pick (.tmp 66) (.tmp 73) (.const (.bool false))),none⟩,⟨(some 6),(.mv (.tmp 74)),none⟩] false [6] (some [6])) .ret)))
def cc3:CC:=(.seq (.reg [⟨(some 3),(.bx (.tmp 0)),none⟩,⟨(some 4),(.bx (.tmp 1)),none⟩,⟨(some 6),(.mv (.const (.bool false))),none⟩] false [] (some [2,3,4])) (.seq (.seq (.reg [⟨(some 12),(.call 13 []),none⟩,⟨(some 13),(.un .not (.tmp 12)),none⟩] false [] (some [2,3,4,13])) (.cond (.tmp 13) (.seq (.reg [⟨(some 6),(.mv (.const (.bool false))),none⟩] false [6] (some [6])) .ret) .skip)) (.seq (.seq (.reg [⟨(some 14),(.ld 3 true (.tmp 3)),none⟩,⟨(some 15),(.call 14 [(.tmp 14)]),none⟩,⟨(some 16),(.un .not (.tmp 15)),none⟩] false [] (some [2,3,4,16])) (.cond (.tmp 16) (.seq (.reg [⟨(some 6),(.mv (.const (.bool true))),none⟩] false [6] (some [6])) .ret) .skip)) (.seq (.reg [⟨(some 17),(.ld 3 true (.tmp 3)),none⟩,⟨(some 18),(.call 15 [(.tmp 17)]),none⟩,⟨(some 7),(.al [.aD,.aD,.aD,.aD,.aD,.aD,.aD,(.int .i64 0),(.int .i64 0),(.int .i64 0)]),none⟩,⟨none,(.st 10 (.tmp 7) (.tmp 18)),none⟩] false [] (some [2,4,7])) (.seq (.seq (.reg [⟨(some 19),(.mv (.tmp 2)),none⟩] false [] (some [4,7,19])) (.cond (.tmp 19) (.seq (.sch (.fin [⟨(some 20),(.fad 0 (.tmp 4)),none⟩,⟨(some 23),(.fad 1 (.tmp 4)),none⟩,⟨(some 25),(.fad 0 (.tmp 7)),none⟩,⟨(some 26),(.fad 0 (.tmp 25)),none⟩,⟨(some 30),(.fad 2 (.tmp 4)),none⟩,⟨(some 21),(.ld 1 false (.tmp 20)),none⟩,⟨(some 24),(.ld 1 false (.tmp 23)),none⟩,⟨(some 27),(.ld 1 false (.tmp 26)),none⟩,⟨(some 28),(.lenl (.tmp 27)),none⟩,⟨(some 31),(.ld 1 false (.tmp 30)),none⟩,⟨(some 22),(.calf 16 [(.tmp 21),(.const (.int .i64 15))]),none⟩,⟨(some 33),(.fad 0 (.tmp 4)),none⟩,⟨(some 29),(.calf 16 [(.tmp 24),(.tmp 28)]),none⟩,⟨(some 32),(.calf 16 [(.tmp 31),(.const (.int .i64 100))]),none⟩,⟨none,(.st 1 (.tmp 33) (.tmp 22)),none⟩,⟨(some 34),(.fad 1 (.tmp 4)),none⟩,⟨none,(.st 1 (.tmp 34) (.tmp 29)),none⟩,⟨(some 35),(.fad 2 (.tmp 4)),none⟩,⟨none,(.st 1 (.tmp 35) (.tmp 32)),none⟩]) [20,23,25,26,30,28,33,34,35] [] (some [4,7])) (.sch (.fin [⟨(some 36),(.fad 3 (.tmp 4)),none⟩,⟨(some 37),(.fad 0 (.tmp 36)),none⟩,⟨(some 40),(.fad 3 (.tmp 4)),none⟩,⟨(some 41),(.fad 1 (.tmp 40)),none⟩,⟨(some 38),(.ld 1 false (.tmp 37)),none⟩,⟨(some 42),(.ld 1 false (.tmp 41)),none⟩,⟨(some 39),(.calf 16 [(.tmp 38),(.const (.int .i64 100))]),none⟩,⟨(some 43),(.calf 16 [(.tmp 42),(.const (.int .i64 100))]),none⟩,⟨(some 44),(.bld [(.int .i64 0),(.int .i64 0)] [(0,(1,(.tmp 39))),(1,(1,(.tmp 43)))]),none⟩,⟨(some 45),(.fad 3 (.tmp 4)),none⟩,⟨none,(.st 2 (.tmp 45) (.tmp 44)),none⟩]) [36,37,40,41,44,45] [] (some [4,7]))) .skip)) a1T)))))
theorem is3:aZ Tryz.prog 3 cc3 [6] 75:=aZ.mk (by kernel_rfl) ⟨Tryz.f3,_,Tryz.func3,rfl,by kernel_rfl,by kernel_rfl,by kernel_rfl,by kernel_rfl,by kernel_rfl⟩
theorem a2i (a n:Int) (h:1<=n) (h2:n<=1000000):aT Tryz.prog 16 [.int .i64 a,.int .i64 n] (.int .i64 (inF a n)):=by
 unfold aT
 refine aK a2C (by simp) ?_
 unfold a2x
 have hr: -n<a.tmod n/\a.tmod n<n:=⟨Int.lt_tmod_of_pos a (by omega),Int.tmod_lt_of_pos a (by omega)⟩
 unfold inF
 generalize hk:a.tmod n=k at hr
 by_cases hc:k<0
 · rw [if_pos hc]
   simp -implicitDefEqProofs(disch:=first|decide|omega)only[↓aA,aC,aB,simprocAttr,x8,hk]
   omega
 · rw [if_neg hc]
   simp -implicitDefEqProofs(disch:=first|decide|omega)only[↓aA,aC,aB,simprocAttr,x8,hk]
   omega
theorem a1U {s:Sta} (K:OKS s) (t:Sta) (h1:t.labels=s.labels) (h2:t.qs=s.qs) (h3:t.nodes.length<=s.nodes.length+1) (h4:t.apps=s.apps) (h5:t.conts=s.conts) (h6:t.slots=s.slots) (h7:t.plans=s.plans):aT Tryz.prog 19 [.agg (stC t),.agg (stC t)] (.bool true):=by
 have hl:=K.st.c.l3
 have hn:=K.st.n
 have ha:=K.st.a
 have hc:=K.st.k
 have hs:=K.st.l
 have hp:=K.st.p
 refine a2h t (h2 ▸ K.st.c.qz) (by rw [h1];omega) (by omega) (by rw [h4];omega) (by rw [h5];omega) (by rw [h6];omega) (by rw [h7];omega) fun a hx=>?_
 have:=K.st.ar a (h4 ▸ hx)
 have b1:=this.asks
 have b2:=this.gl
 have b3:=this.kl
 have b4:=this.tl
 have b5:=this.ll
 unfold wX at b2 b3 b4 b5
 exact ⟨by omega,by omega,by omega,by omega,by omega⟩
theorem a1S (s:Sta) (n:Node):((kA s n).1=s)∨((kA s n).2=0/\∃ x,(kA s n).1=jM s x):=by
 unfold kA
 split
 · exact .inl rfl
 split
 · split
   · exact .inl rfl
   · exact .inr ⟨rfl,_,rfl⟩
 · split
   · exact .inl rfl
   · exact .inr ⟨rfl,_,rfl⟩
theorem a2n {s:Sta} (K:OKS s):NOk s:=by
 have hn:=K.st.n
 have ha:=K.st.a
 have hc:=K.st.k
 have hs:=K.st.l
 have hp:=K.st.p
 exact ⟨K.st.c,by omega,by omega,K.st.ar,by omega,by omega,by omega⟩
set_option maxHeartbeats 4000000 in
theorem a2k {s:Sta} {B:Nat} (h:II B s) (hB:B<=2^39) (n:Node) (o:AO) (R:bX):aw Tryz.prog a1T (aG1 [6] fun y _=>y= .bool true) ⟨(4,.ref 1 0 0) :: (7,.ref 2 0 0) :: R,[o,.box (cB n),.box (stC s)]⟩:=by
 have K:=okS h hB
 have regP:=aLl s (a2n K) h.nS n
 have regR:=aMm s (by have:=K.st.n;omega) (by have:=K.st.c.l3;omega) n
 have same0:=a1U K s rfl rfl (by omega) rfl rfl rfl rfl
 unfold sH at regP regR
 unfold a1T
 simp -implicitDefEqProofs(disch:=first|decide|omega)only[↓aA,aC,aB,simprocAttr,x8,bB,aN]
 refine aE (aI.of (aM:=false) (regP) (.refl rfl) rfl (by simp)) ?_
 simp -implicitDefEqProofs(disch:=first|decide|omega)only[↓aA,aC,aB,simprocAttr,x8,bB,aN]
 refine aE (aI.of (aM:=false) (regR) (.refl rfl) rfl (by simp)) ?_
 rcases a1S s n with e|⟨e,y,ey⟩
 · rw [e]
   simp -implicitDefEqProofs(disch:=first|decide|omega)only[↓aA,aC,aB,simprocAttr,x8,bB,beq_self_eq_true]
   repeat' first
    | rfl
    | (refine aE (aI.of (aM:=false) (same0) (.refl rfl) rfl (by simp)) ?_;simp -implicitDefEqProofs(disch:=first|decide|omega)only[↓aA,aC,aB,simprocAttr,x8,bB])
    | (refine bC (fun hb=>?_) (fun hb=>?_)<;>simp -implicitDefEqProofs(disch:=first|decide|omega)only[↓aA,aC,aB,simprocAttr,x8,hb,bB])
 · have same1:aT Tryz.prog 19 [.agg (stC (kA s n).1),.agg (stC (kA s n).1)] (.bool true):=a1U K _ (by rw [ey];rfl) (by rw [ey];rfl) (by rw [ey];exact mD) (by rw [ey];rfl) (by rw [ey];rfl) (by rw [ey];rfl) (by rw [ey];rfl)
   rw [e]
   simp -implicitDefEqProofs(disch:=first|decide|omega)only[↓aA,aC,aB,simprocAttr,x8,bB,beq_self_eq_true]
   refine aE (aI.of (aM:=false) (same1) (.refl rfl) rfl (by simp)) ?_
   simp -implicitDefEqProofs(disch:=first|decide|omega)only[↓aA,aC,aB,simprocAttr,x8,bB]
set_option maxHeartbeats 4000000 in
theorem a2y (x:Scr) (n:Node) (g:Bool):aW Tryz.prog 3 [.agg (jJ x),bO n,.bool g] [] fun y _=>y= .bool true:=by
 refine aK is3 (by simp) ?_
 unfold cc3
 have kf:=aSv x
 have ks:=aGB x
 generalize hx:wM x=b at kf ks
 unfold jJ at kf ks ⊢
 simp -implicitDefEqProofs(disch:=first|decide|omega)only[↓aA,aC,aB,simprocAttr,x8,bB,aN]
 refine aE (aI.of (aM:=false) (aIe) (.refl rfl) rfl (by simp)) ?_
 simp -implicitDefEqProofs(disch:=first|decide|omega)only[↓aA,aC,aB,simprocAttr,x8,bB,aN]
 refine aE (aI.of (aM:=false) (kf) (.refl rfl) rfl (by simp)) ?_
 cases b
 · simp -implicitDefEqProofs(disch:=first|decide|omega)only[↓aA,aC,aB,simprocAttr,x8,bB]
 simp -implicitDefEqProofs(disch:=first|decide|omega)only[↓aA,aC,aB,simprocAttr,x8,bB,aN]
 refine aH (ks rfl) rfl (fun y hy=>zZ hy) ?_
 rintro _ ⟨s,rfl,h⟩
 have K:=okS h (by omega)
 have hl1:=K.st.c.l1
 have hl3:=K.st.c.l3
 simp -implicitDefEqProofs(disch:=first|decide|omega)only[↓aA,aC,aB,simprocAttr,x8,bB,aN]
 cases g
 · simp -implicitDefEqProofs(disch:=first|decide|omega)only[↓aA,aC,aB,simprocAttr,x8,bB,aN]
   exact a2k h (by omega) _ _ _
 · simp -implicitDefEqProofs(disch:=first|decide|omega)only[↓aA,aC,aB,simprocAttr,x8,bB,aN]
   repeat' first
    | with_reducible apply And.intro
    | omega
    | (refine bP (a2i _ _ (by omega) (by omega)) rfl rfl ?_;simp -implicitDefEqProofs(disch:=first|decide|omega)only[↓aA,aC,aB,simprocAttr,x8,bB,aN])
   all_goals exact a2k h (by omega) ⟨inF n.id 15,inF n.label s.labels.length,inF n.rack 100,inF n.mem 100,inF n.cores 100,n.seen,n.beat,n.up⟩ _ _
theorem a2m:Reads Tryz.prog 29 bO (fun _=>True) :=
 Reads.map (oP Tryz.underlying29 (eQ (z:=1) rfl (by kernel_rfl) (hJ Tryz.underlying3) (fun _ _=>rfl) (eQ (z:=1) rfl (by kernel_rfl) (hJ Tryz.underlying3) (fun _ _=>rfl) (eQ (z:=1) rfl (by kernel_rfl) (hJ Tryz.underlying3) (fun _ _=>rfl) (eQ (z:=2) rfl (by kernel_rfl) (oP Tryz.underlying27 (eQ (z:=1) rfl (by kernel_rfl) (hJ Tryz.underlying3) (fun _ _=>rfl) (eQ (z:=1) rfl (by kernel_rfl) (hJ Tryz.underlying3) (fun _ _=>rfl) sO)) (fun _ _=>rfl)) (fun _ _=>rfl) (eQ (z:=1) rfl (by kernel_rfl) (hJ Tryz.underlying3) (fun _ _=>rfl) (eQ (z:=1) rfl (by kernel_rfl) (hJ Tryz.underlying3) (fun _ _=>rfl) (eQ (z:=1) rfl (by kernel_rfl) (a1Q Tryz.underlying4) (fun _ _=>rfl) sO))))))) (fun _ _=>rfl)) (fun a=>Node.mk a.1 a.2.1 a.2.2.1 a.2.2.2.1.1 a.2.2.2.1.2.1 a.2.2.2.2.1 a.2.2.2.2.2.1 a.2.2.2.2.2.2.1) fun a h=>⟨rfl,trivial⟩
theorem a1X (x:Scr) (n:Node) (g:Bool):aW Tryz.prog 3 [SCR x,bO n,.bool g] [] fun y _=>y= .bool true:=aGb x (a2y x n g) rfl fun y hy=>by subst hy;exact ⟨rfl,rfl⟩
end Go.Proofs.YtakemdamegfcfaaGreat
