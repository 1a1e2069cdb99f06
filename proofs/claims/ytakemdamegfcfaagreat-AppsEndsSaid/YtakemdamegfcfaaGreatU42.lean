/- A part of a proof: what functions of the program compute. No condition. -/
import Derived.Test.YtakemdamegfcfaaGreatU37
import Derived.Test.YtakemdamegfcfaaGreatU41
import Derived.Test.YtakemdamegfcfaaGreatT14
import Derived.Test.YtakemdamegfcfaaGreatProg
import Derived.KernelRfl
import Derived.Test.YtakemdamegfcfaaGreatT6
import Derived.Test.YtakemdamegfcfaaGreatT10
set_option linter.unusedSimpArgs false
set_option linter.unusedVariables false
set_option maxHeartbeats 16000000
set_option maxRecDepth 100000
namespace Go.Proofs.YtakemdamegfcfaaGreat
open Go Go.Ab
theorem a1O {b:Bool} {ks xs:List AV} {K:AV->Prop} (hs:eC ks xs xs=some true) (h:K (.bool (if b then !true else true))):aGO b ks (.agg xs) (.agg xs) K:=⟨true,hs,h⟩
theorem a2q {b:Bool} {K:AV->Prop} (a:Node) (h:K (.bool (if b then !true else true))):aGO b [.int .i64 0,.int .i64 0,.int .i64 0,.int .i64 0,.int .i64 0,.int .i64 0,.int .i64 0,.bool false] (bO a) (bO a) K:=a1O (by simp [cB,eC,xH]) h
theorem a2s {b:Bool} {K:AV->Prop} (a:bD) (h:K (.bool (if b then !true else true))):aGO b [.int .i64 0,.int .i64 0,.int .i64 0,.int .i64 0,.int .i64 0,.int .i64 0,.int .i64 0,.bool false,.int .i64 0] (bY a) (bY a) K:=a1O (by simp [cE,eC,xH]) h
theorem a2o {b:Bool} {K:AV->Prop} (a:dY) (h:K (.bool (if b then !true else true))):aGO b [.int .i64 0,.int .i64 0,.int .i64 0] (gW a) (gW a) K:=a1O (by simp [gF,eC,xH]) h
theorem a2p {b:Bool} {K:AV->Prop} (a:dR) (h:K (.bool (if b then !true else true))):aGO b [.int .i64 0,.int .i64 0,.int .i64 0,.int .i64 0,.int .i64 0,.int .i64 0] (eD a) (eD a) K:=a1O (by simp [fA,eC,xH]) h
theorem a2r {b:Bool} {K:AV->Prop} (a:Ask) (h:K (.bool (if b then !true else true))):aGO b [.int .i64 0,.int .i64 0,.int .i64 0,.int .i64 0,.int .i64 0,.int .i64 0,.int .i64 0,.int .i64 0] (ASK a) (ASK a) K:=a1O (by simp [fC,eC,xH]) h
theorem a2j {b:Bool} {K:AV->Prop} (a:Cap) (h:K (.bool (if b then !true else true))):aGO b [.int .i64 0,.int .i64 0] (CAP a) (CAP a) K:=a1O (by simp [mP,eC,xH]) h
theorem a1P (l:List Int) (hl:l.length<2^62):aT Tryz.prog 129 [.sl false 1 (l.map I64),.sl false 1 (l.map I64)] (.bool true):=by
 unfold aT
 refine aK a2t (by simp) ?_
 unfold a2l
 simp -implicitDefEqProofs(disch:=first|decide|omega)only[↓aA,aC,aB,simprocAttr,x8,eqX]
 unfold a1W
 refine Wa ?_
 refine aF (σ:=Nat) (fun k=>⟨[(0,.sl false 1 (l.map I64)),(1,.sl false 1 (l.map I64)),(5,.int .i64 (k:Int))],[]⟩) (fun k=>k<=l.length) (fun k=>l.length-k) 0 ?_ (by omega) ?_
 · first|exact .inl rfl|exact Sub.ofS [some 0,some 1]
 intro k hk
 unfold a1V
 by_cases hkl:k<l.length
 · have hg:l.getD k default=l[k]:=by simp [hkl]
   simp -implicitDefEqProofs(disch:=first|decide|omega)only[↓aA,aC,aB,simprocAttr,x8,I64,eqX,hg]
   repeat' first
    | with_reducible apply And.intro
    | omega
    | exact ⟨k+1,.inl rfl,by omega,by omega⟩
 have hke:k=l.length:=by omega
 subst hke
 simp -implicitDefEqProofs(disch:=first|decide|omega)only[↓aA,aC,aB,simprocAttr,x8,I64,eqX]
theorem a1R (a:App) (h1:a.asks.length<2^38) (h2:a.grants.length<2^62) (h3:a.kills.length<2^62) (h4:a.told.length<2^62) (h5:a.lost.length<2^62):aT Tryz.prog 66 [APP a,APP a] (.bool true):=by
 unfold aT
 refine aK a2z (by simp) ?_
 unfold a2u
 refine Wt ?_
 refine a2j ⟨_,_⟩ ?_
 simp -implicitDefEqProofs(disch:=first|decide|omega)only[↓aA,aC,aB,simprocAttr,x8,bB,a9,eqX,if_true]
 unfold a10
 refine Wa ?_
 refine aF (σ:=Nat) (fun k=>⟨[(2,.ref 0 0 0),(3,.ref 1 0 0),(5,.int .i64 (k:Int))],[.box (bI a),.box (bI a)]⟩) (fun k=>k<=a.asks.length) (fun k=>a.asks.length-k) 0 ?_ (by omega) ?_
 · first|exact .inl rfl|exact Sub.ofS [some 0,some 1]
 intro k hk
 unfold a1Z
 by_cases hkl:k<a.asks.length
 · have hg:a.asks.getD k default=a.asks[k]:=by simp [hkl]
   simp -implicitDefEqProofs(disch:=first|decide|omega)only[↓aA,aC,aB,simprocAttr,x8,a9,bF,eqX,hg]
   repeat' first
    | with_reducible apply And.intro
    | omega
    | exact ⟨k+1,.inl rfl,by omega,by omega⟩
    | (refine a2r _ ?_;simp -implicitDefEqProofs(disch:=first|decide|omega)only[↓aA,aC,aB,simprocAttr,x8,a9,bF,eqX,if_true,if_false,Bool.false_eq_true])
 have hke:k=a.asks.length:=by omega
 subst hke
 simp -implicitDefEqProofs(disch:=first|decide|omega)only[↓aA,aC,aB,simprocAttr,x8,a9,bF,eqX]
 refine aE (aI.of (aM:=false) (a1P a.grants h2) (.refl rfl) rfl (by simp)) ?_
 refine Wr ?_
 refine aE (aI.of (aM:=false) (a1P a.kills h3) (.refl rfl) rfl (by simp)) ?_
 refine Wr ?_
 refine aE (aI.of (aM:=false) (a1P a.told h4) (.refl rfl) rfl (by simp)) ?_
 refine Wr ?_
 refine aE (aI.of (aM:=false) (a1P a.lost h5) (.refl rfl) rfl (by simp)) ?_
 simp -implicitDefEqProofs(disch:=first|decide|omega)only[↓aA,aC,aB,simprocAttr,x8,a9]
set_option maxHeartbeats 1000000 in
theorem a1Y (ls:List (List UInt8)) (qs:List Queue) (h:QZ qs) (hl:ls.length<2^38):aT Tryz.prog 65 [.agg (bN ls qs),.agg (bN ls qs)] (.bool true):=by
 have hql:=h.l
 unfold aT
 refine aK a2A (by simp) ?_
 unfold a2v bN
 refine Wu ?_
 unfold a14
 refine Wa ?_
 refine aF (σ:=Nat) (fun k=>⟨[(2,.ref 0 0 0),(3,.ref 1 0 0),(5,.int .i64 (k:Int))],[.box (bN ls qs),.box (bN ls qs)]⟩) (fun k=>k<=ls.length) (fun k=>ls.length-k) 0 ?_ (by omega) ?_
 · first|exact .inl rfl|exact Sub.ofS [some 0,some 1]
 intro k hk
 unfold a11
 by_cases hkl:k<ls.length
 · have hg:ls.getD k default=ls[k]:=by simp [hkl]
   simp -implicitDefEqProofs(disch:=first|decide|omega)only[↓aA,aC,aB,simprocAttr,x8,bB,bN,eqX,hg]
   repeat' first
    | with_reducible apply And.intro
    | omega
    | exact ⟨k+1,.inl rfl,by omega,by omega⟩
 have hke:k=ls.length:=by omega
 subst hke
 simp -implicitDefEqProofs(disch:=first|decide|omega)only[↓aA,aC,aB,simprocAttr,x8,bB,bN,eqX]
 unfold a15
 refine Wa ?_
 refine aF (σ:=Nat) (fun k=>⟨[(2,.ref 0 0 0),(3,.ref 1 0 0),(6,.int .i64 (k:Int))],[.box (bN ls qs),.box (bN ls qs)]⟩) (fun k=>k<=qs.length) (fun k=>qs.length-k) 0 ?_ (by omega) ?_
 · unfold bN;exact Sub.ofS [some 0,some 1]
 intro k hk
 unfold a12
 by_cases hkl:k<qs.length
 case neg =>
  simp -implicitDefEqProofs(disch:=first|decide|omega)only[↓aA,aC,aB,simprocAttr,x8,bB,bN,eqX]
 have hg:qs.getD k default=qs[k]:=by simp [hkl]
 have hc:=h.c _ (List.getElem_mem hkl)
 generalize qs[k]=q at hg hc
 simp -implicitDefEqProofs(disch:=first|decide|omega)only[↓aA,aC,aB,simprocAttr,x8,bB,bW,bN,eqX,hg]
 repeat' first
  | with_reducible apply And.intro
  | omega
 all_goals
  unfold a16
  refine Wa ?_
  refine aF (σ:=Nat) (fun j=>⟨[(2,.ref 0 0 0),(3,.ref 1 0 0),(6,.int .i64 (k:Int)),(7,.ref 2 0 0),(8,.ref 3 0 0),(9,.int .i64 (j:Int))],[.box (bN ls qs),.box (bN ls qs),.box (jU q),.box (jU q)]⟩) (fun j=>j<=q.caps.length) (fun j=>q.caps.length-j) 0 ?_ (by omega) ?_
  · first|exact .inl rfl|(unfold bN;(refine Sub.of0 [some 0,some 1,some 2,some 3] rfl ?_ rfl ?_<;>repeat' first|trivial|rfl|exact .inl rfl|exact .inr ⟨rfl,_,_,rfl⟩|(simp;done)|(simp;omega)|refine And.intro ?_ ?_);done)|(unfold bN;exact Sub.ofS [some 0,some 1,some 3,some 2];done)
  intro j hj
  unfold a13
  by_cases hjl:j<q.caps.length
  · have hgj:q.caps.getD j default=q.caps[j]:=by simp [hjl]
    simp -implicitDefEqProofs(disch:=first|decide|omega)only[↓aA,aC,aB,simprocAttr,x8,bB,bW,kH,bN,eqX,hgj]
    repeat' first
     | with_reducible apply And.intro
     | omega
     | exact ⟨j+1,.inl rfl,by omega,by omega⟩
     | (refine a2j _ ?_;simp -implicitDefEqProofs(disch:=first|decide|omega)only[↓aA,aC,aB,simprocAttr,x8,bB,bW,kH,bN,eqX,if_true])
  · simp -implicitDefEqProofs(disch:=first|decide|omega)only[↓aA,aC,aB,simprocAttr,x8,bB,bW,bN,eqX]
    repeat' first
     | with_reducible apply And.intro
     | omega
     | (refine ⟨k+1,?_,by omega,by omega⟩;first|exact .inl rfl|(refine Sub.of0 [some 0,some 1] rfl ?_ rfl ?_<;>repeat' first|trivial|rfl|exact .inl rfl|exact .inr ⟨rfl,_,_,rfl⟩|(simp;done)|(simp;omega)|refine And.intro ?_ ?_))
set_option maxHeartbeats 2000000 in
theorem a2h (s:Sta) (hq:QZ s.qs) (hl:s.labels.length<2^38) (hn:s.nodes.length<2^38) (ha:s.apps.length<2^38) (hc:s.conts.length<2^38) (hs:s.slots.length<2^38) (hp:s.plans.length<2^38) (hA:∀ a∈s.apps,a.asks.length<2^38/\a.grants.length<2^62/\a.kills.length<2^62/\a.told.length<2^62/\a.lost.length<2^62):aT Tryz.prog 19 [.agg (stC s),.agg (stC s)] (.bool true):=by
 have c65:=a1Y s.labels s.qs hq hl
 unfold bN at c65
 unfold aT
 refine aK a2B (by simp) ?_
 unfold a2w
 refine Wb ?_
 refine aE (aI.of (aM:=false) (c65) (.refl rfl) rfl (by simp)) ?_
 refine Wu ?_
 unfold a2c
 refine Wa ?_
 refine aF (σ:=Nat) (fun k=>⟨[(2,.ref 0 0 0),(3,.ref 1 0 0),(5,.bool true),(6,.int .i64 (k:Int))],[.box (stC s),.box (stC s)]⟩) (fun k=>k<=s.nodes.length) (fun k=>s.nodes.length-k) 0 ?_ (by omega) ?_
 · first|exact .inl rfl|exact Sub.ofS [some 0,some 1]
 intro k hk
 unfold a17
 by_cases hkl:k<s.nodes.length
 · have hg:s.nodes.getD k default=s.nodes[k]:=by simp [hkl]
   simp -implicitDefEqProofs(disch:=first|decide|omega)only[↓aA,aC,aB,simprocAttr,x8,bB,aN,eqX,hg]
   repeat' first
    | with_reducible apply And.intro
    | omega
    | exact ⟨k+1,.inl rfl,by omega,by omega⟩
    | (refine a2q _ ?_;simp -implicitDefEqProofs(disch:=first|decide|omega)only[↓aA,aC,aB,simprocAttr,x8,bB,aN,eqX,if_true,if_false,Bool.false_eq_true])
 have hke:k=s.nodes.length:=by omega
 subst hke
 simp -implicitDefEqProofs(disch:=first|decide|omega)only[↓aA,aC,aB,simprocAttr,x8,bB,aN,eqX]
 unfold a2d
 refine Wa ?_
 refine aF (σ:=Nat) (fun k=>⟨[(2,.ref 0 0 0),(3,.ref 1 0 0),(5,.bool true),(7,.int .i64 (k:Int))],[.box (stC s),.box (stC s)]⟩) (fun k=>k<=s.apps.length) (fun k=>s.apps.length-k) 0 ?_ (by omega) ?_
 · first|exact .inl rfl|exact Sub.ofS [some 0,some 1]
 intro k hk
 unfold a18
 by_cases hkl:k<s.apps.length
 · have hAk:=hA _ (List.getElem_mem hkl)
   have hg:s.apps.getD k default=s.apps[k]:=by simp [hkl]
   simp -implicitDefEqProofs(disch:=first|decide|omega)only[↓aA,aC,aB,simprocAttr,x8,bB,a9,eqX,hg]
   repeat' first
    | with_reducible apply And.intro
    | omega
    | exact ⟨k+1,.inl rfl,by omega,by omega⟩
    | (refine aE (aI.of (aM:=false) (a1R _ hAk.1 hAk.2.1 hAk.2.2.1 hAk.2.2.2.1 hAk.2.2.2.2) (.refl rfl) rfl (by simp)) ?_;simp -implicitDefEqProofs(disch:=first|decide|omega)only[↓aA,aC,aB,simprocAttr,x8,bB,a9,eqX])
    | (refine bP (a1R _ hAk.1 hAk.2.1 hAk.2.2.1 hAk.2.2.2.1 hAk.2.2.2.2) rfl rfl ?_;simp -implicitDefEqProofs(disch:=first|decide|omega)only[↓aA,aC,aB,simprocAttr,x8,bB,a9,eqX])
 have hke:k=s.apps.length:=by omega
 subst hke
 refine Wt ?_
 unfold a2e
 refine Wa ?_
 refine aF (σ:=Nat) (fun k=>⟨[(2,.ref 0 0 0),(3,.ref 1 0 0),(5,.bool true),(8,.int .i64 (k:Int))],[.box (stC s),.box (stC s)]⟩) (fun k=>k<=s.conts.length) (fun k=>s.conts.length-k) 0 ?_ (by omega) ?_
 · first|exact .inl rfl|exact Sub.ofS [some 0,some 1]
 intro k hk
 unfold a19
 by_cases hkl:k<s.conts.length
 · have hg:s.conts.getD k default=s.conts[k]:=by simp [hkl]
   simp -implicitDefEqProofs(disch:=first|decide|omega)only[↓aA,aC,aB,simprocAttr,x8,bB,aY,eqX,hg]
   repeat' first
    | with_reducible apply And.intro
    | omega
    | exact ⟨k+1,.inl rfl,by omega,by omega⟩
    | (refine a2s _ ?_;simp -implicitDefEqProofs(disch:=first|decide|omega)only[↓aA,aC,aB,simprocAttr,x8,bB,aY,eqX,if_true,if_false,Bool.false_eq_true])
 have hke:k=s.conts.length:=by omega
 subst hke
 simp -implicitDefEqProofs(disch:=first|decide|omega)only[↓aA,aC,aB,simprocAttr,x8,bB,aY,eqX]
 unfold a2f
 refine Wa ?_
 refine aF (σ:=Nat) (fun k=>⟨[(2,.ref 0 0 0),(3,.ref 1 0 0),(5,.bool true),(9,.int .i64 (k:Int))],[.box (stC s),.box (stC s)]⟩) (fun k=>k<=s.slots.length) (fun k=>s.slots.length-k) 0 ?_ (by omega) ?_
 · first|exact .inl rfl|exact Sub.ofS [some 0,some 1]
 intro k hk
 unfold a2a
 by_cases hkl:k<s.slots.length
 · have hg:s.slots.getD k default=s.slots[k]:=by simp [hkl]
   simp -implicitDefEqProofs(disch:=first|decide|omega)only[↓aA,aC,aB,simprocAttr,x8,bB,cU,eqX,hg]
   repeat' first
    | with_reducible apply And.intro
    | omega
    | exact ⟨k+1,.inl rfl,by omega,by omega⟩
    | (refine a2o _ ?_;simp -implicitDefEqProofs(disch:=first|decide|omega)only[↓aA,aC,aB,simprocAttr,x8,bB,cU,eqX,if_true,if_false,Bool.false_eq_true])
 have hke:k=s.slots.length:=by omega
 subst hke
 simp -implicitDefEqProofs(disch:=first|decide|omega)only[↓aA,aC,aB,simprocAttr,x8,bB,cU,eqX]
 unfold a2g
 refine Wa ?_
 refine aF (σ:=Nat) (fun k=>⟨[(2,.ref 0 0 0),(3,.ref 1 0 0),(5,.bool true),(10,.int .i64 (k:Int))],[.box (stC s),.box (stC s)]⟩) (fun k=>k<=s.plans.length) (fun k=>s.plans.length-k) 0 ?_ (by omega) ?_
 · first|exact .inl rfl|exact Sub.ofS [some 0,some 1]
 intro k hk
 unfold a2b
 by_cases hkl:k<s.plans.length
 · have hg:s.plans.getD k default=s.plans[k]:=by simp [hkl]
   simp -implicitDefEqProofs(disch:=first|decide|omega)only[↓aA,aC,aB,simprocAttr,x8,bB,bG,eqX,hg]
   repeat' first
    | with_reducible apply And.intro
    | omega
    | exact ⟨k+1,.inl rfl,by omega,by omega⟩
    | (refine a2p _ ?_;simp -implicitDefEqProofs(disch:=first|decide|omega)only[↓aA,aC,aB,simprocAttr,x8,bB,bG,eqX,if_true,if_false,Bool.false_eq_true])
 have hke:k=s.plans.length:=by omega
 subst hke
 simp -implicitDefEqProofs(disch:=first|decide|omega)only[↓aA,aC,aB,simprocAttr,x8,bB,bG,eqX]
theorem a1U {s:Sta} (K:OKS s) (t:Sta) (h1:t.labels=s.labels) (h2:t.qs=s.qs) (h3:t.nodes.length<=s.nodes.length+1) (h4:t.apps=s.apps) (h5:t.conts=s.conts) (h6:t.slots=s.slots) (h7:t.plans=s.plans):aT Tryz.prog 19 [.agg (stC t),.agg (stC t)] (.bool true):=by
 have hl:=K.st.c.l3
 have hn:=K.st.n
 have ha:=K.st.a
 have hc:=K.st.k
 have hs:=K.st.l
 have hp:=K.st.p
 refine a2h t (h2 ▸ K.st.c.qz) (by rw [h1];omega) (by omega) (by rw [h4];omega) (by rw [h5];omega) (by rw [h6];omega) (by rw [h7];omega) fun a hx=>?_
 have:=K.st.ar a (h4 ▸ hx)
 have b1:=this.asks
 have b2:=this.gl
 have b3:=this.kl
 have b4:=this.tl
 have b5:=this.ll
 unfold wX at b2 b3 b4 b5
 exact ⟨by omega,by omega,by omega,by omega,by omega⟩
theorem a2n {s:Sta} (K:OKS s):NOk s:=by
 have hn:=K.st.n
 have ha:=K.st.a
 have hc:=K.st.k
 have hs:=K.st.l
 have hp:=K.st.p
 exact ⟨K.st.c,by omega,by omega,K.st.ar,by omega,by omega,by omega⟩
def R32:{c:CC // aJ Tryz.prog 32=c}:=⟨_,by conv=>lhs;reduce⟩
def S32:{c:CC // bA Tryz.prog 32 { fs:=false } R32.1 []=c}:=⟨_,by conv=>lhs;reduce⟩
def a6G:CC:=(fun (c:CC) (_:(S32.1)=c)=>c) _ (by conv=>lhs;reduce)
theorem a6K:aZ Tryz.prog 32 a6G [0] 37:=aZ.of Tryz.f32 Tryz.func32 rfl
def R35:{c:CC // aJ Tryz.prog 35=c}:=⟨_,by conv=>lhs;reduce⟩
def S35:{c:CC // bA Tryz.prog 35 {} R35.1 []=c}:=⟨_,by conv=>lhs;reduce⟩
def a6E:CC:=(fun (c:CC) (_:(S35.1)=c)=>c) _ (by conv=>lhs;reduce)
theorem a6I:aZ Tryz.prog 35 a6E [4] 15:=aZ.of Tryz.f35 Tryz.func35 rfl
end Go.Proofs.YtakemdamegfcfaaGreat
