/- A part of a proof: what functions of the program compute. No condition. -/
import Derived.Test.YtakemdamegfcfaaGreatT33
import Derived.Test.YtakemdamegfcfaaGreatT34
import Derived.Test.YtakemdamegfcfaaGreatProg
import Derived.KernelRfl
import Derived.Test.YtakemdamegfcfaaGreatT6
set_option linter.unusedSimpArgs false
set_option linter.unusedVariables false
set_option maxHeartbeats 16000000
set_option maxRecDepth 100000
namespace Go.Proofs.YtakemdamegfcfaaGreat
open Go Go.Ab
theorem aIT {ls:List (List UInt8)} {qs:List Queue} (h0:C0 ls qs) (h:e95 ls qs=0):CKK ls qs:=by
 have ht:=aIE h
 refine ⟨ht,aUz h,?_⟩
 have:=aJY ls qs h0
 rwa [h] at this
set_option maxHeartbeats 2000000 in
theorem aH1 {B:Nat} (s:Sta) (h:II B s) (hB:B<=2^39) (x:List UInt8) (hx:x.length<=4000):aW Tryz.prog 100 [.agg (stC s),.str x] [] fun y _=>eZ B y:=by
 have K:=okS h hB
 have bad:∀ e:Int,∃ y,Wk4 (.tup [.agg (stC s),.agg [.int .i64 e,.aD,.aD,.aD,.int .i64 0]]) y/\eZ B y:=fun e=>cO h e 0 (.inl rfl) (.inl rfl) (.inl rfl)
 refine cX (aO aSd (by simp) ?_)
 unfold aP8
 simp -implicitDefEqProofs(disch:=first|decide|omega)only[↓aA,aC,aB,simprocAttr,bB]
 refine aH (aYF x (by omega)) rfl (by rintro _ ⟨_,_,_,rfl,_⟩;rfl) ?_
 rintro _ ⟨ls,qs,e,rfl,hc0⟩
 have c95:=aJY ls qs hc0
 unfold bN at c95
 by_cases he:e=0
 case neg =>
  simp -implicitDefEqProofs(disch:=first|decide|omega)only[↓aA,aC,aB,simprocAttr,bB,bN,he]
  refine aE (aI.of (aM:=false) (dJ s e) (.refl rfl) rfl (by simp)) ?_
  simp -implicitDefEqProofs(disch:=first|decide|omega)only[↓aA,aC,aB,simprocAttr,bB]
  exact bad e
 simp -implicitDefEqProofs(disch:=first|decide|omega)only[↓aA,aC,aB,simprocAttr,bB,bN,he]
 refine aE (aI.of (aM:=false) (c95) (.refl rfl) rfl (by simp)) ?_
 by_cases h0:e95 ls qs=0
 case neg =>
  simp -implicitDefEqProofs(disch:=first|decide|omega)only[↓aA,aC,aB,simprocAttr,bB,h0]
  refine aE (aI.of (aM:=false) (dJ s (e95 ls qs)) (.refl rfl) rfl (by simp)) ?_
  simp -implicitDefEqProofs(disch:=first|decide|omega)only[↓aA,aC,aB,simprocAttr,bB]
  exact bad _
 have hck:=aIT hc0 h0
 have hct:=hck.t
 have l3:=hct.l3
 have sl3:=K.st.c.l3
 by_cases hll:ls.length<s.labels.length
 · simp -implicitDefEqProofs(disch:=first|decide|omega)only[↓aA,aC,aB,simprocAttr,bB,h0]
   refine aE (aI.of (aM:=false) (dJ s 14) (.refl rfl) rfl (by simp)) ?_
   simp -implicitDefEqProofs(disch:=first|decide|omega)only[↓aA,aC,aB,simprocAttr,bB]
   exact bad 14
 simp -implicitDefEqProofs(disch:=first|decide|omega)only[↓aA,aC,aB,simprocAttr,bB,h0]
 unfold aEE
 simp -implicitDefEqProofs(disch:=first|decide|omega)only[↓aA,aC,aB,simprocAttr]
 refine aF (σ:=Nat) (fun i=>⟨[(2,.ref 0 0 0),(4,.ref 1 0 0),(5,.ref 2 0 0),(6,.ref 3 0 0),(8,.int .i64 (i:Int))],[.box (stC s),.box [.aD,.aD,.aD,.aD,.aD,.aD,.aD,.int .i64 0,.int .i64 0,.int .i64 0],.box [.int .i64 0,.aD,.aD,.aD,.int .i64 0],.box (bN ls qs)]⟩) (fun i=>i<=s.labels.length) (fun i=>s.labels.length-i) 0 (.inl rfl) (by omega) ?_
 intro i hi
 unfold aEC
 by_cases hil:i<s.labels.length
 · cases hq:ls.getD i default==s.labels.getD i default
   · simp -implicitDefEqProofs(disch:=first|decide|omega)only[↓aA,aC,aB,simprocAttr,bB,bN,hq,Bool.not_false]
     repeat refine And.intro (by omega) ?_
     refine aE (aI.of (aM:=false) (dJ s 14) (.refl rfl) rfl (by simp)) ?_
     simp -implicitDefEqProofs(disch:=first|decide|omega)only[↓aA,aC,aB,simprocAttr,bB]
     exact bad 14
   · simp -implicitDefEqProofs(disch:=first|decide|omega)only[↓aA,aC,aB,simprocAttr,bB,bN,hq,Bool.not_true]
     repeat refine And.intro (by omega) ?_
     exact ⟨i+1,.inl rfl,by omega,by omega⟩
 simp -implicitDefEqProofs(disch:=first|decide|omega)only[↓aA,aC,aB,simprocAttr,bB,bN]
 unfold aEF
 simp -implicitDefEqProofs(disch:=first|decide|omega)only[↓aA,aC,aB,simprocAttr]
 have ha16:=h.aL
 refine aF (σ:=Nat) (fun i=>⟨[(2,.ref 0 0 0),(4,.ref 1 0 0),(5,.ref 2 0 0),(6,.ref 3 0 0),(9,.int .i64 (i:Int))],[.box (stC s),.box [.aD,.aD,.aD,.aD,.aD,.aD,.aD,.int .i64 0,.int .i64 0,.int .i64 0],.box [.int .i64 0,.aD,.aD,.aD,.int .i64 0],.box (bN ls qs)]⟩) (fun i=>i<=s.apps.length/\∀ j,(hj:j<i)->(h:j<s.apps.length)->live s.apps[j]=true->iM qs s.apps[j].queue=true) (fun i=>s.apps.length-i) 0 (.inl rfl) ⟨by omega,fun j h=>by omega⟩ ?_
 rintro j ⟨hj,hall⟩
 unfold aED
 by_cases hjl:j<s.apps.length
 · have hg:s.apps.getD j default=s.apps[j]:=by simp [hjl]
   have c69:=sQ ls qs hc0.qz s.apps[j].queue
   unfold bN at c69
   simp -implicitDefEqProofs(disch:=first|decide|omega)only[↓aA,aC,aB,simprocAttr,bB,a9,bN,hg]
   repeat refine And.intro (by omega) ?_
   refine aE (aI.of (aM:=false) (fX s.apps[j]) (.refl rfl) rfl (by simp)) ?_
   cases hl:live s.apps[j]
   · simp -implicitDefEqProofs(disch:=first|decide|omega)only[↓aA,aC,aB,simprocAttr,bB,a9,bN,hg]
     repeat refine And.intro (by omega) ?_
     refine ⟨j+1,.inl rfl,⟨by omega,fun k hk h2 h3=>?_⟩,by omega⟩
     by_cases hkj:k=j
     · subst hkj;rw [hl] at h3;cases h3
     · exact hall k (by omega) h2 h3
   · simp -implicitDefEqProofs(disch:=first|decide|omega)only[↓aA,aC,aB,simprocAttr,bB,a9,bN,hg]
     repeat refine And.intro (by omega) ?_
     refine aE (aI.of (aM:=false) (c69) (.refl rfl) rfl (by simp)) ?_
     cases hlf:iM qs s.apps[j].queue
     · simp -implicitDefEqProofs(disch:=first|decide|omega)only[↓aA,aC,aB,simprocAttr,bB]
       repeat refine And.intro (by omega) ?_
       refine aE (aI.of (aM:=false) (dJ s 14) (.refl rfl) rfl (by simp)) ?_
       simp -implicitDefEqProofs(disch:=first|decide|omega)only[↓aA,aC,aB,simprocAttr,bB]
       exact bad 14
     · simp -implicitDefEqProofs(disch:=first|decide|omega)only[↓aA,aC,aB,simprocAttr,bB]
       repeat refine And.intro (by omega) ?_
       refine ⟨j+1,.inl rfl,⟨by omega,fun k hk h2 h3=>?_⟩,by omega⟩
       by_cases hkj:k=j
       · subst hkj;exact hlf
       · exact hall k (by omega) h2 h3
 simp -implicitDefEqProofs(disch:=first|decide|omega)only[↓aA,aC,aB,simprocAttr,bB,bN]
 refine cO (s':={ s with labels:=ls,qs:=qs }) ?_ 0 0 (.inl rfl) (.inl rfl) (.inl rfl)
 refine aIR h hck (by omega) fun a ha hl=>?_
 obtain ⟨k,hk,rfl⟩:=List.getElem_of_mem ha
 exact hall k (by omega) hk hl
set_option maxHeartbeats 1000000 in
theorem aBE {B:Nat} (s:Sta) (h:II B s) (hB:B<=2^39) (id st:Int) (hst:st=3∨st=4):aW Tryz.prog 103 [.agg (stC s),.int .i64 id,.int .i64 st] [] fun y _=>eZ B y:=by
 have K:=okS h hB
 have bad:∀ e:Int,∃ y,Wk4 (.tup [.agg (stC s),.agg [.int .i64 e,.aD,.aD,.aD,.int .i64 0]]) y/\eZ B y:=fun e=>cO h e 0 (.inl rfl) (.inl rfl) (.inl rfl)
 refine cX (aO aSa (by simp) ?_)
 unfold aP5
 have c40:=gV s (by have:=K.st.a;omega) id
 unfold dT at c40
 simp -implicitDefEqProofs(disch:=first|decide|omega)only[↓aA,aC,aB,simprocAttr,bB,a9]
 refine aE (aI.of (aM:=false) (c40) (.refl rfl) rfl (by simp)) ?_
 cases hf:dP id s.apps with
 | none =>
   simp -implicitDefEqProofs(disch:=first|decide|omega)only[↓aA,aC,aB,simprocAttr,bB,a9,Option.isSome_none,Option.getD_none]
   refine aE (aI.of (aM:=false) (dJ s 2) (.refl rfl) rfl (by simp)) ?_
   simp -implicitDefEqProofs(disch:=first|decide|omega)only[↓aA,aC,aB,simprocAttr,bB]
   exact bad 2
 | some a =>
   simp -implicitDefEqProofs(disch:=first|decide|omega)only[↓aA,aC,aB,simprocAttr,bB,a9,Option.isSome_some,Option.getD_some]
   have c42:=fX a
   unfold APP bI at c42
   refine aE (aI.of (aM:=false) (c42) (.refl rfl) rfl (by simp)) ?_
   cases hl:live a
   · simp -implicitDefEqProofs(disch:=first|decide|omega)only[↓aA,aC,aB,simprocAttr,bB,a9]
     refine aE (aI.of (aM:=false) (dJ s 14) (.refl rfl) rfl (by simp)) ?_
     simp -implicitDefEqProofs(disch:=first|decide|omega)only[↓aA,aC,aB,simprocAttr,bB]
     exact bad 14
   · simp -implicitDefEqProofs(disch:=first|decide|omega)only[↓aA,aC,aB,simprocAttr,bB,a9]
     refine aE (aI.of (aM:=false) (aSz s (by have:=K.st.a;omega) (by have:=K.st.k;omega) (by have:=K.st.l;omega) id st) (.refl rfl) rfl (by simp)) ?_
     simp -implicitDefEqProofs(disch:=first|decide|omega)only[↓aA,aC,aB,simprocAttr,bB]
     exact cO (aIC h id st hst) 0 0 (.inl rfl) (.inl rfl) (.inr ⟨_,rfl⟩)
theorem aMY {B:Nat} {s:Sta} (h:II B s) (id:Int) (hB:B+200<=2^39):∀ k,k<=(onL (bV (fU s id) id) id).length->SZ (fG (bV (fU s id) id) ((onL (bV (fU s id) id) id).take k)):=by
 have hs:=jC h fun x=>x.node !=id
 have e2:onL (bV (fU s id) id) id=onL (bV s id) id:=by
  unfold fU
  split<;>rfl
 have hlen:(onL (bV s id) id).length<=200:=by
  unfold onL
  rw [List.length_map]
  exact Nat.le_trans (List.length_filter_le _ _) h.cL
 rw [e2]
 intro k hk
 have hz:=rN hs (onL (bV s id) id) (by omega) k hk
 unfold fU
 cases hf:eH id s.nodes with
 | none=>exact hz
 | some m =>
   have e1:bV (jM s { m with up:=false }) id={ bV s id with nodes:=eE Node.id { m with up:=false } s.nodes }:=rfl
   simp only
   rw [e1,p6]
   exact ⟨hz.a,hz.c,hz.l,hz.k,hz.g⟩
set_option maxHeartbeats 4000000 in
theorem aHY {B:Nat} (s:Sta) (h:II B s) (hB:B+4000<=2^39) (n:Int):aW Tryz.prog 104 [.agg (stC s),.int .i64 n] [] fun y _=>eZ (B+4000) y:=by
 have K:=okS h (by omega)
 have bad:∀ e:Int,∃ y,Wk4 (.tup [.agg (stC s),.agg [.int .i64 e,.aD,.aD,.aD,.int .i64 0]]) y/\eZ (B+4000) y:=fun e=>cO (h.mono (by omega)) e 0 (.inl rfl) (.inl rfl) (.inl rfl)
 refine cX (aO aR9 (by simp) ?_)
 unfold aP4
 have hnow:=h.now
 by_cases h1:n<1
 · simp -implicitDefEqProofs(disch:=first|decide|omega)only[↓aA,aC,aB,simprocAttr,bB]
   refine aE (aI.of (aM:=false) (dJ s 1) (.refl rfl) rfl (by simp)) ?_
   simp -implicitDefEqProofs(disch:=first|decide|omega)only[↓aA,aC,aB,simprocAttr,bB]
   exact bad 1
 by_cases h2:n>100
 · simp -implicitDefEqProofs(disch:=first|decide|omega)only[↓aA,aC,aB,simprocAttr,bB]
   refine aE (aI.of (aM:=false) (dJ s 1) (.refl rfl) rfl (by simp)) ?_
   simp -implicitDefEqProofs(disch:=first|decide|omega)only[↓aA,aC,aB,simprocAttr,bB]
   exact bad 1
 by_cases h3:s.now+n>1000000000
 · simp -implicitDefEqProofs(disch:=first|decide|omega)only[↓aA,aC,aB,simprocAttr,bB]
   repeat refine And.intro (by omega) ?_
   refine aE (aI.of (aM:=false) (dJ s 11) (.refl rfl) rfl (by simp)) ?_
   simp -implicitDefEqProofs(disch:=first|decide|omega)only[↓aA,aC,aB,simprocAttr,bB]
   exact bad 11
 simp -implicitDefEqProofs(disch:=first|decide|omega)only[↓aA,aC,aB,simprocAttr,bB]
 repeat refine And.intro (by omega) ?_
 have hn:=aMp h (t:=s.now+n) (by omega) (by omega)
 generalize hs1:({ s with now:=s.now+n }:Sta)=s1 at hn
 have K1:=okS hn (by omega)
 have e1:stC s1=[.sl false 1 (s.labels.map .str),.sl false 3 (s.qs.map QUE),.sl false 8 (s.nodes.map bO),.sl false 14 (s.apps.map APP),.sl false 9 (s.conts.map bY),.sl false 3 (s.slots.map gW),.sl false 6 (s.plans.map eD),.int .i64 (s.now+n),.int .i64 s.ep,.int .i64 s.sq]:=by rw [<- hs1];rfl
 have e0:s1.now=s.now+n:=by rw [<- hs1]
 have c29:=aAk s1 (by have:=K1.st.n;omega) ⟨hn.now.1,hn.now.2⟩ (fun m hm=>⟨(hn.nR m hm).seen.1,Int.le_trans (hn.nR m hm).seen.2 hn.now.2⟩)
 have l12:((s1.nodes.filter (quiet s1.now)).map Node.id).length<=12:=by
  rw [List.length_map]
  exact Nat.le_trans (List.length_filter_le _ _) hn.nL
 generalize (s1.nodes.filter (quiet s1.now)).map Node.id=L at c29 l12
 rw [e1] at c29
 refine aE (aI.of (aM:=false) (c29) (.refl rfl) rfl (by simp)) ?_
 simp -implicitDefEqProofs(disch:=first|decide|omega)only[↓aA,aC,aB,simprocAttr]
 unfold aEv
 simp -implicitDefEqProofs(disch:=first|decide|omega)only[↓aA,aC,aB,simprocAttr]
 refine aF (σ:=Nat×Sta) (fun p=>⟨[(2,.ref 0 0 0),(4,.ref 1 0 0),(5,.ref 2 0 0),(6,.ref 3 0 0),(7,.sl false 1 (L.map I64)),(8,.int .i64 (p.1:Int))],[.box (stC p.2),.box [.aD,.aD,.aD,.aD,.aD,.aD,.aD,.int .i64 0,.int .i64 0,.int .i64 0],.box [.int .i64 0,.aD,.aD,.aD,.int .i64 0],.box (stC s)]⟩) (fun p=>p.1<=L.length/\II (B+200*p.1) p.2) (fun p=>L.length-p.1) (0,s1) ?_ ⟨by simp,by simpa using hn⟩ ?_
 · rw [show stC (0,s1).2=_ from e1]
   unfold stC
   (refine Sub.of0 [some 0,some 1,some 2,some 3] rfl ?_ rfl ?_<;>repeat' first|trivial|rfl|exact .inl rfl|exact .inr ⟨rfl,_,_,rfl⟩|(simp;done)|(simp;omega)|refine And.intro ?_ ?_)
 rintro ⟨k,t⟩ ⟨hk,ht⟩
 simp only at hk ht
 unfold aEs
 by_cases hkl:k<L.length
 · have hg:L.getD k default=L[k]:=by simp [hkl]
   have K2:=okS ht (by omega)
   have h200:=ht.cL
   simp -implicitDefEqProofs(disch:=first|decide|omega)only[↓aA,aC,aB,simprocAttr,bB,hg,I64]
   repeat refine And.intro (by omega) ?_
   refine aE (aI.of (aM:=false) (aHU t (by have:=K2.st.n;omega) L[k]) (.refl rfl) rfl (by simp)) ?_
   simp -implicitDefEqProofs(disch:=first|decide|omega)only[↓aA,aC,aB,simprocAttr,bB]
   have hg1:=aFC ht L[k]
   have hsd:(fU t L[k]).slots.length<2^38/\(fU t L[k]).conts.length<=200:=by
    have:(fU t L[k]).slots=t.slots/\(fU t L[k]).conts=t.conts:=by
     unfold fU
     split<;>exact ⟨rfl,rfl⟩
    rw [this.1,this.2]
    exact ⟨by have:=K2.st.l;omega,h200⟩
   refine aE (aI.of (aM:=false) (pZ (fU t L[k]) hsd.1 L[k]) (.refl rfl) rfl (by simp)) ?_
   simp -implicitDefEqProofs(disch:=first|decide|omega)only[↓aA,aC,aB,simprocAttr,bB,hg,I64]
   have hmon:=aAn (bV (fU t L[k]) L[k]) (by show (fU t L[k]).conts.length<_;omega) L[k]
   repeat refine And.intro (by omega) ?_
   refine bP (hmon) rfl rfl ?_
   simp -implicitDefEqProofs(disch:=first|decide|omega)only[↓aA,aC,aB,simprocAttr,bB]
   have hon:(onL (bV (fU t L[k]) L[k]) L[k]).length<=200:=by
    unfold onL
    rw [List.length_map]
    exact Nat.le_trans (List.length_filter_le _ _) hsd.2
   refine aE (aI.of (aM:=false) (rO false (bV (fU t L[k]) L[k]) (onL (bV (fU t L[k]) L[k]) L[k]) (by omega) (aMY ht L[k] (by omega))) (.refl rfl) rfl (by simp)) ?_
   simp -implicitDefEqProofs(disch:=first|decide|omega)only[↓aA,aC,aB,simprocAttr,bB]
   refine ⟨(k+1,aIr t L[k]),?_,⟨by simp only;omega,hg1.mono (by simp only;omega)⟩,by simp only;omega⟩
   (refine Sub.of0 [some 0,some 1,some 2,some 3] rfl ?_ rfl ?_<;>repeat' first|trivial|rfl|exact .inl rfl|exact .inr ⟨rfl,_,_,rfl⟩|(simp;done)|(simp;omega)|refine And.intro ?_ ?_)
 simp -implicitDefEqProofs(disch:=first|decide|omega)only[↓aA,aC,aB,simprocAttr,bB]
 have K2:=okS ht (by omega)
 have c47:=z5 t (by have:=K2.st.a;omega) ⟨ht.now.1,ht.now.2⟩ (fun m hm=>⟨(ht.aR m hm).seen.1,Int.le_trans (ht.aR m hm).seen.2 ht.now.2⟩)
 have l16:((t.apps.filter fun a=>a.state==2&&decide (15<=t.now-a.seen)).map App.id).length<=16:=by
  rw [List.length_map]
  exact Nat.le_trans (List.length_filter_le _ _) ht.aL
 generalize (t.apps.filter fun a=>a.state==2&&decide (15<=t.now-a.seen)).map App.id=M at c47 l16
 refine aE (aI.of (aM:=false) (c47) (.refl rfl) rfl (by simp)) ?_
 simp -implicitDefEqProofs(disch:=first|decide|omega)only[↓aA,aC,aB,simprocAttr]
 have ht:II (B+2400) t:=ht.mono (by omega)
 clear c29 K2
 unfold aEw
 simp -implicitDefEqProofs(disch:=first|decide|omega)only[↓aA,aC,aB,simprocAttr]
 refine aF (σ:=Nat×Sta) (fun p=>⟨[(2,.ref 0 0 0),(4,.ref 1 0 0),(5,.ref 2 0 0),(6,.ref 3 0 0),(7,.sl false 1 (M.map I64)),(9,.int .i64 (p.1:Int))],[.box (stC p.2),.box [.aD,.aD,.aD,.aD,.aD,.aD,.aD,.int .i64 0,.int .i64 0,.int .i64 0],.box [.int .i64 0,.aD,.aD,.aD,.int .i64 0],.box (stC s)]⟩) (fun p=>p.1<=M.length/\II (B+2400+p.1) p.2) (fun p=>M.length-p.1) (0,t) ?_ ⟨by simp,by simpa using ht⟩ ?_
 · unfold stC
   (refine Sub.of0 [some 0,some 1,some 2,some 3] rfl ?_ rfl ?_<;>repeat' first|trivial|rfl|exact .inl rfl|exact .inr ⟨rfl,_,_,rfl⟩|(simp;done)|(simp;omega)|refine And.intro ?_ ?_)
 clear ht K1
 rintro ⟨k2,u⟩ ⟨hk2,hu⟩
 simp only at hk2 hu
 unfold aEt
 by_cases hkl:k2<M.length
 · have hg:M.getD k2 default=M[k2]:=by simp [hkl]
   have K2:=okS hu (by omega)
   simp -implicitDefEqProofs(disch:=first|decide|omega)only[↓aA,aC,aB,simprocAttr,bB,hg,I64]
   repeat refine And.intro (by omega) ?_
   refine a7 (aH2 u (by have:=K2.st.k;omega) M[k2]) rfl (by rintro _ ⟨_,rfl⟩;rfl) ?_
   rintro _ ⟨b,rfl⟩
   simp -implicitDefEqProofs(disch:=first|decide|omega)only[↓aA,aC,aB,simprocAttr,bB]
   have c52:=rO true u [b] (by simp) (rN hu [b] (by simp only [List.length_singleton];omega))
   refine aE (aI.of (aM:=true) c52 (.cons (Vw.refl rfl) (.cons (Vw.wA (f:=I64) (l:=[b]) rfl rfl) .nil)) rfl (fun _=>rfl)) ?_
   simp -implicitDefEqProofs(disch:=first|decide|omega)only[↓aA,aC,aB,simprocAttr,bB]
   refine ⟨(k2+1,fG u [b]),?_,⟨by simp only;omega,(jN [b] hu).mono (by simp only [List.length_singleton];omega)⟩,by simp only;omega⟩
   (refine Sub.of0 [some 0,some 1,some 2,some 3] rfl ?_ rfl ?_<;>repeat' first|trivial|rfl|exact .inl rfl|exact .inr ⟨rfl,_,_,rfl⟩|(simp;done)|(simp;omega)|refine And.intro ?_ ?_)
 simp -implicitDefEqProofs(disch:=first|decide|omega)only[↓aA,aC,aB,simprocAttr,bB]
 have hu:II (B+2416) u:=hu.mono (by omega)
 have K2:=okS hu (by omega)
 unfold aEx
 simp -implicitDefEqProofs(disch:=first|decide|omega)only[↓aA,aC,aB,simprocAttr]
 have hp12:=hu.pL
 refine aF (σ:=Nat) (fun k=>⟨[(2,.ref 0 0 0),(4,.ref 1 0 0),(5,.ref 2 0 0),(6,.ref 3 0 0),(10,.own 4 6 0 ((u.plans.take k).filter fun p=>decide (p.til>u.now)).length),(11,.int .i64 (k:Int))],[.box (stC u),.box [.aD,.aD,.aD,.aD,.aD,.aD,.aD,.int .i64 0,.int .i64 0,.int .i64 0],.box [.int .i64 0,.aD,.aD,.aD,.int .i64 0],.box (stC s),.arr 6 (((u.plans.take k).filter fun p=>decide (p.til>u.now)).map eD)]⟩) (fun k=>k<=u.plans.length) (fun k=>u.plans.length-k) 0 ?_ (by simp) ?_
 · unfold stC
   (refine Sub.of0 [some 0,some 1,some 2,some 3,none] rfl ?_ rfl ?_<;>repeat' first|trivial|rfl|exact .inl rfl|exact .inr ⟨rfl,_,_,rfl⟩|(simp;done)|(simp;omega)|refine And.intro ?_ ?_)
 intro k3 hk3
 unfold aEu
 have hle:((u.plans.take k3).filter fun p=>decide (p.til>u.now)).length<=k3:=Nat.le_trans (List.length_filter_le _ _) (by simp;omega)
 generalize hfl:(u.plans.take k3).filter (fun p=>decide (p.til>u.now))=F at hle
 by_cases hkl:k3<u.plans.length
 · have hg:u.plans.getD k3 default=u.plans[k3]:=by simp [hkl]
   have hfs:=cH (p:=fun p:dR=>decide (p.til>u.now)) hkl
   by_cases hc:u.plans[k3].til>u.now
   · simp -implicitDefEqProofs(disch:=first|decide|omega)only[↓aA,aC,aB,simprocAttr,bB,bG,hg,hc]
     repeat refine And.intro (by omega) ?_
     refine ⟨k3+1,?_,by omega,by omega⟩
     rw [hfs,hfl]
     simp only [hc,decide_true,if_true,List.map_append,List.map_cons,List.map_nil,List.length_append,List.length_cons,List.length_nil]
     (refine Sub.of0 [some 0,some 1,some 2,some 3,some 6] rfl ?_ rfl ?_<;>repeat' first|trivial|rfl|exact .inl rfl|exact .inr ⟨rfl,_,_,rfl⟩|(simp;done)|(simp;omega)|refine And.intro ?_ ?_)
   · simp -implicitDefEqProofs(disch:=first|decide|omega)only[↓aA,aC,aB,simprocAttr,bB,bG,hg,hc]
     repeat refine And.intro (by omega) ?_
     refine ⟨k3+1,?_,by omega,by omega⟩
     rw [hfs,hfl]
     simp only [hc,decide_false,if_false,Bool.false_eq_true]
     (refine Sub.ofL [some 0,some 1,some 2,some 3,some 4] rfl (by simp) (by decide) (by simp [cQ,AO.ro,AV.ro,AV.roL,names,AO.empty,SB,U8,SI,I64,STR]<;>(try and_intros)<;>rfl) (by simp [AO.bo,AV.bo,AV.boL,names]<;>(try and_intros)<;>rfl) ?_<;>(try simp only [List.map_cons,List.map_nil,cV,AV.ro,AV.roL,AV.bo,AV.boL,names,bK,bE,Nat.reduceBEq,List.getD_cons_zero,List.getD_cons_succ,List.getD_nil,and_true,true_and,Nat.reduceLT,List.length_cons,List.length_nil,Nat.reduceAdd,decide_true,Option.isSome_some,Bool.true_or,Bool.and_self,Option.isSome_none,Bool.false_or,beq_self_eq_true,bL,bM])<;>(try and_intros)<;>(first|done|rfl|exact .inl rfl|exact .inr ⟨rfl,_,_,rfl⟩|(simp;done)|(simp;omega)|(refine .inl ?_;simp;done)|(refine .inl ?_;simp;omega)))
 simp -implicitDefEqProofs(disch:=first|decide|omega)only[↓aA,aC,aB,simprocAttr,bB]
 have hF:F=u.plans.filter fun p=>decide (p.til>u.now):=by
  rw [<- hfl,List.take_of_length_le (by omega)]
 have hv:II (B+2416) { u with plans:=F }:=by
  rw [hF]
  exact pX hu (fD hu.pS) (Nat.le_trans (List.length_filter_le _ _) hu.pL) fun p hp=>hu.pR p (List.mem_filter.1 hp).1
 have K3:=okS hv (by omega)
 refine aH (aEV { u with plans:=F } hv (by omega)) rfl (fun y hy=>w9 hy) ?_
 rintro _ ⟨w,g,rfl,hw⟩
 simp -implicitDefEqProofs(disch:=first|decide|omega)only[↓aA,aC,aB,simprocAttr,bB]
 have K4:=okS hw (by omega)
 refine a7 (xB s w (by have:=K.st.k;omega) (by have:=K4.st.k;omega)) rfl (by rintro _ ⟨_,rfl⟩;rfl) ?_
 rintro _ ⟨gl,rfl⟩
 simp -implicitDefEqProofs(disch:=first|decide|omega)only[↓aA,aC,aB,simprocAttr,bB]
 exact cO (hw.mono (by omega)) 0 0 (.inl rfl) (.inl rfl) (.inr ⟨_,rfl⟩)
def a1L:{c:CC // aJ Tryz.prog 102=c}:=⟨_,by conv=>lhs;reduce⟩
def aGg:{c:CC // bA Tryz.prog 102 { ty:=[(true,13),(true,52)] } a1L.1 [([1,1,0,0,1,1,1,1,1,1,1,0,0],(.p [2,6,10,1,3,5,7,11] (.f [0,9,2004,2008,12,13,14,15]) (.p [] (.p [2004] (.f [0,9,2008,12,13,14,15]) (.p [] (.p [2008] (.f [0,9,12,13,14,15]) (.p [9] (.f [0,12,13,14,15]) (.f [12,13,0,14,15]))) (.p [9] (.f [0,2008,12,13,14,15]) (.p [2008] (.f [0,12,13,14,15]) (.f [12,13,0,14,15]))))) (.p [9] (.f [0,2004,2008,12,13,14,15]) (.p [2004] (.f [0,2008,12,13,14,15]) (.p [2008] (.f [0,12,13,14,15]) (.f [12,13,0,14,15]))))))),([1,1,1,1,1,0,1,0,0,1,0,0,0],(.f [1,3,0,2,4,1005,10,2006,7,8,9,11,12])),([1,1,1,1,1,1,0],(.p [1,5,9,0,2,4,6,10] (.p [2003] (.p [2007] (.p [8] (.f [11,12,13,14]) (.f [13,11,12,14])) (.f [13,8,11,12,14])) (.p [] (.p [8] (.p [2007] (.f [11,12,13,14]) (.f [13,11,12,14])) (.f [13,2007,11,12,14])) (.f [13,8,2007,11,12,14]))) (.p [] (.p [8] (.p [2003] (.p [2007] (.f [11,12,13,14]) (.f [13,11,12,14])) (.f [13,2007,11,12,14])) (.f [13,2003,2007,11,12,14])) (.f [13,8,2003,2007,11,12,14])))),([1,1,1,1,1,1,1,0],(.p [0,1,3,5] (.p [2] (.f [4,6,7,8,9,10]) (.p [6,7] (.f [4,8,9,10]) (.f [8,4,9,10]))) (.p [] (.p [4] (.f [2,6,7,8,9,10]) (.f [6,2,7,8,9,10])) (.p [6,2,7] (.f [4,8,9,10]) (.f [8,4,9,10]))))),([1,1,1,1,1,1,1,1,1,0],(.p [0,1] (.p [2] (.f [3,4,5]) (.f [4,3,5])) (.f [3,2,4,5])))]=c}:=⟨_,by conv=>lhs;reduce⟩
def qE:CC:=(fun (c:CC) (_:(aGg.1.aV [1,1,1,1,1,1,1])=c)=>c) _ (by conv=>lhs;reduce)
def qF:CC:=(fun (c:CC->CC) (_:(fun a0=>(aGg.1.aV [1,1,1,1,1,1]).aU [1] a0)=c)=>c) _ (by conv=>lhs;reduce) qE
def aEy:CC:=(fun (c:CC) (_:(aGg.1.aV [1,1,1,1,1,0,1,0,0])=c)=>c) _ (by conv=>lhs;reduce)
def aEz:CC:=(fun (c:CC->CC) (_:(fun a0=>(aGg.1.aV [1,1,1,1,1,0,1]).aU [0,0] a0)=c)=>c) _ (by conv=>lhs;reduce) aEy
def tV:CC:=(fun (c:CC->CC->CC) (_:(fun a0 a1=>((aGg.1.aV [1,1,1]).aU [1,1,0,1] a0).aU [1,1,1] a1)=c)=>c) _ (by conv=>lhs;reduce) aEz qF
def aP6:CC:=(fun (c:CC->CC) (_:(fun a0=>(aGg.1).aU [1,1,1] a0)=c)=>c) _ (by conv=>lhs;reduce) tV
theorem aSb:aX Tryz.prog 102 aP6 [.ce 4 41 10 true,.ce 5 94 5 true] 169:=aX.mk (by kernel_rfl) ⟨Tryz.f102,_,Tryz.func102,rfl,by kernel_rfl,by kernel_rfl,by kernel_rfl,by kernel_rfl,by kernel_rfl⟩ ⟨by kernel_rfl,by kernel_rfl,trivial⟩
def a1f:{c:CC // aJ Tryz.prog 152=c}:=⟨_,by conv=>lhs;reduce⟩
def aT1:{c:CC // bA Tryz.prog 152 {} a1f.1 [([1,0,1,0,0,1,0,0,0],(.f [0,1,2,4,5,1003,6,7,8,9]))]=c}:=⟨_,by conv=>lhs;reduce⟩
def aDV:CC:=(fun (c:CC) (_:(aT1.1.aV [1,0,1,0,0])=c)=>c) _ (by conv=>lhs;reduce)
def aDW:CC:=(fun (c:CC->CC) (_:(fun a0=>(aT1.1.aV [1,0,1]).aU [0,0] a0)=c)=>c) _ (by conv=>lhs;reduce) aDV
def aPB:CC:=(fun (c:CC->CC) (_:(fun a0=>(aT1.1).aU [1,0,1] a0)=c)=>c) _ (by conv=>lhs;reduce) aDW
theorem aWp:aZ Tryz.prog 152 aPB [6,7] 41:=aZ.mk (by kernel_rfl) ⟨Tryz.f152,_,Tryz.func152,rfl,by kernel_rfl,by kernel_rfl,by kernel_rfl,by kernel_rfl,by kernel_rfl⟩
def zS (y:AV):Prop:=∃ l:List Ask,∃ e:Int,y= .tup [.sl false 8 (l.map ASK),.int .i64 e]/\(e=0->l.length<=8/\∀ z∈l,jT z)
theorem zR {y:AV} (h:zS y):y.low=true:=by
 obtain ⟨l,e,rfl,_⟩:=h
 rfl
theorem aFi (s:Sta) (l m:List Ask) (hl:l.length<=8) (ho:∀ z∈l,jT z) (hm:m.length<=8):aW Tryz.prog 152 [.agg (stC s),.sl false 8 (l.map ASK),.sl false 8 (m.map ASK)] [] fun y _=>zS y:=by
 have bad:∀ e:Int,e≠0->∃ z,Wk4 (.tup [.aD,.int .i64 e]) z/\zS z:=fun e he=>⟨.tup [.sl false 8 (([]:List Ask).map ASK),.int .i64 e],.of3 (.inr ⟨_,_,rfl,rfl,.inl (.inr ⟨rfl,_,_,rfl⟩),.inl (.inl rfl),trivial⟩),[],e,rfl,fun h=>absurd h he⟩
 refine cX (aK aWp (by simp) ?_)
 unfold aPB
 simp -implicitDefEqProofs(disch:=first|decide|omega)only[↓aA,aC,aB,simprocAttr,bB]
 unfold aDW
 simp -implicitDefEqProofs(disch:=first|decide|omega)only[↓aA,aC,aB,simprocAttr]
 refine aF (σ:=Nat×List Ask) (fun p=>⟨[(1,.sl false 8 (p.2.map ASK)),(2,.sl false 8 (m.map ASK)),(3,.ref 0 0 0),(8,.int .i64 (p.1:Int))],[.box (stC s)]⟩) (fun p=>p.1<=m.length/\p.2.length<=8/\∀ z∈p.2,jT z) (fun p=>m.length-p.1) (0,l) (.inl rfl) ⟨by simp,hl,ho⟩ ?_
 rintro ⟨k,g⟩ ⟨hk,hg8,hgo⟩
 simp only at hk hg8 hgo
 unfold aDV
 by_cases hkl:k<m.length
 · have hg:m.getD k default=m[k]:=by simp [hkl]
   simp -implicitDefEqProofs(disch:=first|decide|omega)only[↓aA,aC,aB,simprocAttr,bB,bF,hg]
   repeat refine And.intro (by omega) ?_
   have c178:=aFv m[k] s.labels.length
   unfold ASK fC at c178
   refine aH c178 rfl (by rintro _ ⟨_,rfl,_⟩;rfl) ?_
   rintro _ ⟨e,rfl,he⟩
   by_cases h0:e=0
   case neg =>
    simp -implicitDefEqProofs(disch:=first|decide|omega)only[↓aA,aC,aB,simprocAttr,bB,h0]
    exact bad e h0
   simp -implicitDefEqProofs(disch:=first|decide|omega)only[↓aA,aC,aB,simprocAttr,bB,bF,h0,hg]
   repeat refine And.intro (by omega) ?_
   have hc:=he h0
   have c179:=aMI g (by omega) m[k]
   unfold ASK fC at c179
   refine aE (aI.of (aM:=false) (c179) (.refl rfl) rfl (by simp)) ?_
   unfold z6
   by_cases h8:8<(oE g m[k]).length
   · simp -implicitDefEqProofs(disch:=first|decide|omega)only[↓aA,aC,aB,simprocAttr,bB,h8]
     exact bad 4 (by decide)
   · simp -implicitDefEqProofs(disch:=first|decide|omega)only[↓aA,aC,aB,simprocAttr,bB,h8]
     exact ⟨(k+1,oE g m[k]),.inl rfl,⟨by simp only;omega,by simp only;omega,aKU hgo hc.prio hc.label.1 hc.size hc.count hc.node hc.rack⟩,by simp only;omega⟩
 · simp -implicitDefEqProofs(disch:=first|decide|omega)only[↓aA,aC,aB,simprocAttr,bB]
   exact ⟨_,fun _ _ _ hv=>hv,g,0,rfl,fun _=>⟨hg8,hgo⟩⟩
theorem aHX {B:Nat} (s:Sta) (hs:s.apps.length<=16) (x:Inp) (a:App) (l:List Ask) (g:List Int) (cl:List bD) (il gl:List Int) (ht:II B (iJ s (mV a l g s.now x.beat))) :
 aw Tryz.prog qE (oN [.ce 4 41 10 true,.ce 5 94 5 true] fun y _=>∃ z,Wk4 y z/\eZ B z) ⟨[(2,.ref 0 0 0),(3,.ref 1 0 0),(4,.ref 2 0 0),(5,.ref 3 0 0),(6,.ref 4 0 0),(8,.sl false 8 (l.map ASK)),(13,.ref 5 0 0)],[.box (stC s),.box (bZ x),.box [.aD,.aD,.aD,.aD,.aD,.aD,.aD,.int .i64 0,.int .i64 0,.int .i64 0],.box [.int .i64 0,.aD,.aD,.aD,.int .i64 0],.box (bI { a with grants:=g }),.box (l6 0 cl il gl 0)]⟩:=by
 unfold qE
 have c44:=gB s (by omega) (mV a l g s.now x.beat)
 simp -implicitDefEqProofs(disch:=first|decide|omega)only[↓aA,aC,aB,simprocAttr,bB,bI,bZ,l6]
 repeat' (with_reducible apply And.intro)
 all_goals try omega
 all_goals
  refine aE (aI.of (aM:=false) c44 (.cons (Vw.refl rfl) (.cons (Vw.wk (.inl (.inr ⟨_,_,rfl,rfl,by simp [WkL,Wk1,bI,mV]⟩)) rfl) .nil)) rfl (by simp)) ?_
  simp -implicitDefEqProofs(disch:=first|decide|omega)only[↓aA,aC,aB,simprocAttr,bB,bI,bZ,l6]
  repeat' (with_reducible apply And.intro)
  all_goals exact cO ht 0 0 (.inr ⟨_,rfl⟩) (.inr ⟨_,rfl⟩) (.inr ⟨_,rfl⟩)
end Go.Proofs.YtakemdamegfcfaaGreat
