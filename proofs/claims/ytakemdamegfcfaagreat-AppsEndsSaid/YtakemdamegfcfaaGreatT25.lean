/- A part of a proof: what functions of the program compute. No condition. -/
import Derived.Test.YtakemdamegfcfaaGreatT22
import Derived.Test.YtakemdamegfcfaaGreatProg
import Derived.KernelRfl
import Derived.Test.YtakemdamegfcfaaGreatT6
import Derived.Test.YtakemdamegfcfaaGreatT10
import Derived.Test.YtakemdamegfcfaaGreatT24
set_option linter.unusedSimpArgs false
set_option linter.unusedVariables false
set_option maxHeartbeats 16000000
set_option maxRecDepth 100000
namespace Go.Proofs.YtakemdamegfcfaaGreat
open Go Go.Ab
set_option maxHeartbeats 1000000 in
theorem aBE {B:Nat} (s:Sta) (h:II B s) (hB:B<=2^39) (id st:Int) (hst:st=3∨st=4):aW Tryz.prog 103 [.agg (stC s),.int .i64 id,.int .i64 st] [] fun y _=>eZ B y:=by
 have K:=okS h hB
 have bad:∀ e:Int,∃ y,Wk4 (.tup [.agg (stC s),.agg [.int .i64 e,.aD,.aD,.aD,.int .i64 0]]) y/\eZ B y:=fun e=>cO h e 0 (.inl rfl) (.inl rfl) (.inl rfl)
 refine cX (aO aSa (by simp) ?_)
 unfold aP5
 have c40:=gV s (by have:=K.st.a;omega) id
 unfold dT at c40
 refine Yh ?_
 refine aE (aI.of (aM:=false) (c40) (.refl rfl) rfl (by simp)) ?_
 cases hf:dP id s.apps with
 | none =>
   simp -implicitDefEqProofs(disch:=first|decide|omega)only[↓aA,aC,aB,simprocAttr,bB,a9,Option.isSome_none,Option.getD_none]
   refine aE (aI.of (aM:=false) (dJ s 2) (.refl rfl) rfl (by simp)) ?_
   simp -implicitDefEqProofs(disch:=first|decide|omega)only[↓aA,aC,aB,simprocAttr,bB]
   exact bad 2
 | some a =>
   simp -implicitDefEqProofs(disch:=first|decide|omega)only[↓aA,aC,aB,simprocAttr,bB,a9,Option.isSome_some,Option.getD_some]
   have c42:=fX a
   unfold APP bI at c42
   refine aE (aI.of (aM:=false) (c42) (.refl rfl) rfl (by simp)) ?_
   cases hl:live a
   · simp -implicitDefEqProofs(disch:=first|decide|omega)only[↓aA,aC,aB,simprocAttr,bB,a9]
     refine aE (aI.of (aM:=false) (dJ s 14) (.refl rfl) rfl (by simp)) ?_
     simp -implicitDefEqProofs(disch:=first|decide|omega)only[↓aA,aC,aB,simprocAttr,bB]
     exact bad 14
   · simp -implicitDefEqProofs(disch:=first|decide|omega)only[↓aA,aC,aB,simprocAttr,bB,a9]
     refine aE (aI.of (aM:=false) (aSz s (by have:=K.st.a;omega) (by have:=K.st.k;omega) (by have:=K.st.l;omega) id st) (.refl rfl) rfl (by simp)) ?_
     simp -implicitDefEqProofs(disch:=first|decide|omega)only[↓aA,aC,aB,simprocAttr,bB]
     exact cO (aIC h id st hst) 0 0 (.inl rfl) (.inl rfl) (.inr ⟨_,rfl⟩)
theorem aMY {B:Nat} {s:Sta} (h:II B s) (id:Int) (hB:B+200<=2^39):∀ k,k<=(onL (bV (fU s id) id) id).length->SZ (fG (bV (fU s id) id) ((onL (bV (fU s id) id) id).take k)):=by
 have hs:=jC h fun x=>x.node !=id
 have e2:onL (bV (fU s id) id) id=onL (bV s id) id:=by
  unfold fU
  split<;>rfl
 have hlen:(onL (bV s id) id).length<=200:=by
  unfold onL
  rw [List.length_map]
  exact Nat.le_trans (List.length_filter_le _ _) h.cL
 rw [e2]
 intro k hk
 have hz:=rN hs (onL (bV s id) id) (by omega) k hk
 unfold fU
 cases hf:eH id s.nodes with
 | none=>exact hz
 | some m =>
   have e1:bV (jM s { m with up:=false }) id={ bV s id with nodes:=eE Node.id { m with up:=false } s.nodes }:=rfl
   simp only
   rw [e1,p6]
   exact ⟨hz.a,hz.c,hz.l,hz.k,hz.g⟩
set_option maxHeartbeats 4000000 in
theorem aHY {B:Nat} (s:Sta) (h:II B s) (hB:B+4000<=2^39) (n:Int):aW Tryz.prog 104 [.agg (stC s),.int .i64 n] [] fun y _=>eZ (B+4000) y:=by
 have K:=okS h (by omega)
 have bad:∀ e:Int,∃ y,Wk4 (.tup [.agg (stC s),.agg [.int .i64 e,.aD,.aD,.aD,.int .i64 0]]) y/\eZ (B+4000) y:=fun e=>cO (h.mono (by omega)) e 0 (.inl rfl) (.inl rfl) (.inl rfl)
 refine cX (aO aR9 (by simp) ?_)
 unfold aP4
 have hnow:=h.now
 by_cases h1:n<1
 · refine Yb ?_
   refine aE (aI.of (aM:=false) (dJ s 1) (.refl rfl) rfl (by simp)) ?_
   refine Yb ?_
   exact bad 1
 by_cases h2:n>100
 · refine Yb ?_
   refine aE (aI.of (aM:=false) (dJ s 1) (.refl rfl) rfl (by simp)) ?_
   refine Yb ?_
   exact bad 1
 by_cases h3:s.now+n>1000000000
 · simp -implicitDefEqProofs(disch:=first|decide|omega)only[↓aA,aC,aB,simprocAttr,bB]
   repeat refine And.intro (by omega) ?_
   refine aE (aI.of (aM:=false) (dJ s 11) (.refl rfl) rfl (by simp)) ?_
   refine Yb ?_
   exact bad 11
 simp -implicitDefEqProofs(disch:=first|decide|omega)only[↓aA,aC,aB,simprocAttr,bB]
 repeat refine And.intro (by omega) ?_
 have hn:=aMp h (t:=s.now+n) (by omega) (by omega)
 generalize hs1:({ s with now:=s.now+n }:Sta)=s1 at hn
 have K1:=okS hn (by omega)
 have e1:stC s1=[.sl false 1 (s.labels.map .str),.sl false 3 (s.qs.map QUE),.sl false 8 (s.nodes.map bO),.sl false 14 (s.apps.map APP),.sl false 9 (s.conts.map bY),.sl false 3 (s.slots.map gW),.sl false 6 (s.plans.map eD),.int .i64 (s.now+n),.int .i64 s.ep,.int .i64 s.sq]:=by rw [<- hs1];rfl
 have e0:s1.now=s.now+n:=by rw [<- hs1]
 have c29:=aAk s1 (by have:=K1.st.n;omega) ⟨hn.now.1,hn.now.2⟩ (fun m hm=>⟨(hn.nR m hm).seen.1,Int.le_trans (hn.nR m hm).seen.2 hn.now.2⟩)
 have l12:((s1.nodes.filter (quiet s1.now)).map Node.id).length<=12:=by
  rw [List.length_map]
  exact Nat.le_trans (List.length_filter_le _ _) hn.nL
 generalize (s1.nodes.filter (quiet s1.now)).map Node.id=L at c29 l12
 rw [e1] at c29
 refine aE (aI.of (aM:=false) (c29) (.refl rfl) rfl (by simp)) ?_
 refine Ya ?_
 unfold aEv
 refine Ya ?_
 refine aF (σ:=Nat×Sta) (fun p=>⟨[(2,.ref 0 0 0),(4,.ref 1 0 0),(5,.ref 2 0 0),(6,.ref 3 0 0),(7,.sl false 1 (L.map I64)),(8,.int .i64 (p.1:Int))],[.box (stC p.2),.box [.aD,.aD,.aD,.aD,.aD,.aD,.aD,.int .i64 0,.int .i64 0,.int .i64 0],.box [.int .i64 0,.aD,.aD,.aD,.int .i64 0],.box (stC s)]⟩) (fun p=>p.1<=L.length/\II (B+200*p.1) p.2) (fun p=>L.length-p.1) (0,s1) ?_ ⟨by simp,by simpa using hn⟩ ?_
 · rw [show stC (0,s1).2=_ from e1]
   unfold stC
   exact Sub.ofS [some 0,some 1,some 2,some 3]
 rintro ⟨k,t⟩ ⟨hk,ht⟩
 simp only at hk ht
 unfold aEs
 by_cases hkl:k<L.length
 · have hg:L.getD k default=L[k]:=by simp [hkl]
   have K2:=okS ht (by omega)
   have h200:=ht.cL
   simp -implicitDefEqProofs(disch:=first|decide|omega)only[↓aA,aC,aB,simprocAttr,bB,hg,I64]
   repeat refine And.intro (by omega) ?_
   refine aE (aI.of (aM:=false) (aHU t (by have:=K2.st.n;omega) L[k]) (.refl rfl) rfl (by simp)) ?_
   refine Yb ?_
   have hg1:=aFC ht L[k]
   have hsd:(fU t L[k]).slots.length<2^38/\(fU t L[k]).conts.length<=200:=by
    have:(fU t L[k]).slots=t.slots/\(fU t L[k]).conts=t.conts:=by
     unfold fU
     split<;>exact ⟨rfl,rfl⟩
    rw [this.1,this.2]
    exact ⟨by have:=K2.st.l;omega,h200⟩
   refine aE (aI.of (aM:=false) (pZ (fU t L[k]) hsd.1 L[k]) (.refl rfl) rfl (by simp)) ?_
   simp -implicitDefEqProofs(disch:=first|decide|omega)only[↓aA,aC,aB,simprocAttr,bB,hg,I64]
   have hmon:=aAn (bV (fU t L[k]) L[k]) (by show (fU t L[k]).conts.length<_;omega) L[k]
   repeat refine And.intro (by omega) ?_
   refine bP (hmon) rfl rfl ?_
   refine Yb ?_
   have hon:(onL (bV (fU t L[k]) L[k]) L[k]).length<=200:=by
    unfold onL
    rw [List.length_map]
    exact Nat.le_trans (List.length_filter_le _ _) hsd.2
   refine aE (aI.of (aM:=false) (rO false (bV (fU t L[k]) L[k]) (onL (bV (fU t L[k]) L[k]) L[k]) (by omega) (aMY ht L[k] (by omega))) (.refl rfl) rfl (by simp)) ?_
   refine Yb ?_
   refine ⟨(k+1,aIr t L[k]),?_,⟨by simp only;omega,hg1.mono (by simp only;omega)⟩,by simp only;omega⟩
   exact Sub.ofS [some 0,some 1,some 2,some 3]
 refine Yb ?_
 have K2:=okS ht (by omega)
 have c47:=z5 t (by have:=K2.st.a;omega) ⟨ht.now.1,ht.now.2⟩ (fun m hm=>⟨(ht.aR m hm).seen.1,Int.le_trans (ht.aR m hm).seen.2 ht.now.2⟩)
 have l16:((t.apps.filter fun a=>a.state==2&&decide (15<=t.now-a.seen)).map App.id).length<=16:=by
  rw [List.length_map]
  exact Nat.le_trans (List.length_filter_le _ _) ht.aL
 generalize (t.apps.filter fun a=>a.state==2&&decide (15<=t.now-a.seen)).map App.id=M at c47 l16
 refine aE (aI.of (aM:=false) (c47) (.refl rfl) rfl (by simp)) ?_
 refine Ya ?_
 have ht:II (B+2400) t:=ht.mono (by omega)
 clear c29 K2
 unfold aEw
 refine Ya ?_
 refine aF (σ:=Nat×Sta) (fun p=>⟨[(2,.ref 0 0 0),(4,.ref 1 0 0),(5,.ref 2 0 0),(6,.ref 3 0 0),(7,.sl false 1 (M.map I64)),(9,.int .i64 (p.1:Int))],[.box (stC p.2),.box [.aD,.aD,.aD,.aD,.aD,.aD,.aD,.int .i64 0,.int .i64 0,.int .i64 0],.box [.int .i64 0,.aD,.aD,.aD,.int .i64 0],.box (stC s)]⟩) (fun p=>p.1<=M.length/\II (B+2400+p.1) p.2) (fun p=>M.length-p.1) (0,t) ?_ ⟨by simp,by simpa using ht⟩ ?_
 · unfold stC
   exact Sub.ofS [some 0,some 1,some 2,some 3]
 clear ht K1
 rintro ⟨k2,u⟩ ⟨hk2,hu⟩
 simp only at hk2 hu
 unfold aEt
 by_cases hkl:k2<M.length
 · have hg:M.getD k2 default=M[k2]:=by simp [hkl]
   have K2:=okS hu (by omega)
   simp -implicitDefEqProofs(disch:=first|decide|omega)only[↓aA,aC,aB,simprocAttr,bB,hg,I64]
   repeat refine And.intro (by omega) ?_
   refine a7 (aH2 u (by have:=K2.st.k;omega) M[k2]) rfl (by rintro _ ⟨_,rfl⟩;rfl) ?_
   rintro _ ⟨b,rfl⟩
   refine Yb ?_
   have c52:=rO true u [b] (by simp) (rN hu [b] (by simp only [List.length_singleton];omega))
   refine aE (aI.of (aM:=true) c52 (.cons (Vw.refl rfl) (.cons (Vw.wA (f:=I64) (l:=[b]) rfl rfl) .nil)) rfl (fun _=>rfl)) ?_
   refine Yb ?_
   refine ⟨(k2+1,fG u [b]),?_,⟨by simp only;omega,(jN [b] hu).mono (by simp only [List.length_singleton];omega)⟩,by simp only;omega⟩
   exact Sub.ofS [some 0,some 1,some 2,some 3]
 refine Yb ?_
 have hu:II (B+2416) u:=hu.mono (by omega)
 have K2:=okS hu (by omega)
 unfold aEx
 refine Ya ?_
 have hp12:=hu.pL
 refine aF (σ:=Nat) (fun k=>⟨[(2,.ref 0 0 0),(4,.ref 1 0 0),(5,.ref 2 0 0),(6,.ref 3 0 0),(10,.own 4 6 0 ((u.plans.take k).filter fun p=>decide (p.til>u.now)).length),(11,.int .i64 (k:Int))],[.box (stC u),.box [.aD,.aD,.aD,.aD,.aD,.aD,.aD,.int .i64 0,.int .i64 0,.int .i64 0],.box [.int .i64 0,.aD,.aD,.aD,.int .i64 0],.box (stC s),.arr 6 (((u.plans.take k).filter fun p=>decide (p.til>u.now)).map eD)]⟩) (fun k=>k<=u.plans.length) (fun k=>u.plans.length-k) 0 ?_ (by simp) ?_
 · unfold stC
   exact Sub.ofS [some 0,some 1,some 2,some 3,none]
 intro k3 hk3
 unfold aEu
 have hle:((u.plans.take k3).filter fun p=>decide (p.til>u.now)).length<=k3:=Nat.le_trans (List.length_filter_le _ _) (by simp;omega)
 generalize hfl:(u.plans.take k3).filter (fun p=>decide (p.til>u.now))=F at hle
 by_cases hkl:k3<u.plans.length
 · have hg:u.plans.getD k3 default=u.plans[k3]:=by simp [hkl]
   have hfs:=cH (p:=fun p:dR=>decide (p.til>u.now)) hkl
   by_cases hc:u.plans[k3].til>u.now
   · simp -implicitDefEqProofs(disch:=first|decide|omega)only[↓aA,aC,aB,simprocAttr,bB,bG,hg,hc]
     repeat refine And.intro (by omega) ?_
     refine ⟨k3+1,?_,by omega,by omega⟩
     rw [hfs,hfl]
     simp only [hc,decide_true,if_true,List.map_append,List.map_cons,List.map_nil,List.length_append,List.length_cons,List.length_nil]
     exact Sub.ofS [some 0,some 1,some 2,some 3,some 6]
   · simp -implicitDefEqProofs(disch:=first|decide|omega)only[↓aA,aC,aB,simprocAttr,bB,bG,hg,hc]
     repeat refine And.intro (by omega) ?_
     refine ⟨k3+1,?_,by omega,by omega⟩
     rw [hfs,hfl]
     simp only [hc,decide_false,if_false,Bool.false_eq_true]
     (refine Sub.ofL [some 0,some 1,some 2,some 3,some 4] rfl (by simp) (by decide) (by simp [cQ,AO.ro,AV.ro,AV.roL,names,AO.empty,SB,U8,SI,I64,STR]<;>(try and_intros)<;>rfl) (by simp [AO.bo,AV.bo,AV.boL,names]<;>(try and_intros)<;>rfl) ?_<;>(try simp only [List.map_cons,List.map_nil,cV,AV.ro,AV.roL,AV.bo,AV.boL,names,bK,bE,Nat.reduceBEq,List.getD_cons_zero,List.getD_cons_succ,List.getD_nil,and_true,true_and,Nat.reduceLT,List.length_cons,List.length_nil,Nat.reduceAdd,decide_true,Option.isSome_some,Bool.true_or,Bool.and_self,Option.isSome_none,Bool.false_or,beq_self_eq_true,bL,bM])<;>(try and_intros)<;>(first|done|rfl|exact .inl rfl|exact .inr ⟨rfl,_,_,rfl⟩|(simp;done)|(simp;omega)|(refine .inl ?_;simp;done)|(refine .inl ?_;simp;omega)))
 refine Yb ?_
 have hF:F=u.plans.filter fun p=>decide (p.til>u.now):=by
  rw [<- hfl,List.take_of_length_le (by omega)]
 have hv:II (B+2416) { u with plans:=F }:=by
  rw [hF]
  exact pX hu (fD hu.pS) (Nat.le_trans (List.length_filter_le _ _) hu.pL) fun p hp=>hu.pR p (List.mem_filter.1 hp).1
 have K3:=okS hv (by omega)
 refine aH (aEV { u with plans:=F } hv (by omega)) rfl (fun y hy=>w9 hy) ?_
 rintro _ ⟨w,g,rfl,hw⟩
 refine Yb ?_
 have K4:=okS hw (by omega)
 refine a7 (xB s w (by have:=K.st.k;omega) (by have:=K4.st.k;omega)) rfl (by rintro _ ⟨_,rfl⟩;rfl) ?_
 rintro _ ⟨gl,rfl⟩
 refine Yb ?_
 exact cO (hw.mono (by omega)) 0 0 (.inl rfl) (.inl rfl) (.inr ⟨_,rfl⟩)
def a1L:{c:CC // aJ Tryz.prog 102=c}:=⟨_,by conv=>lhs;reduce⟩
def aGg:{c:CC // bA Tryz.prog 102 { ty:=[(true,13),(true,52)] } a1L.1 [([1,1,0,0,1,1,1,1,1,1,1,0,0],(.p [2,6,10,1,3,5,7,11] (.f [0,9,2004,2008,12,13,14,15]) (.p [] (.p [2004] (.f [0,9,2008,12,13,14,15]) (.p [] (.p [2008] (.f [0,9,12,13,14,15]) (.p [9] (.f [0,12,13,14,15]) (.f [12,13,0,14,15]))) (.p [9] (.f [0,2008,12,13,14,15]) (.p [2008] (.f [0,12,13,14,15]) (.f [12,13,0,14,15]))))) (.p [9] (.f [0,2004,2008,12,13,14,15]) (.p [2004] (.f [0,2008,12,13,14,15]) (.p [2008] (.f [0,12,13,14,15]) (.f [12,13,0,14,15]))))))),([1,1,1,1,1,0,1,0,0,1,0,0,0],(.f [1,3,0,2,4,1005,10,2006,7,8,9,11,12])),([1,1,1,1,1,1,0],(.p [1,5,9,0,2,4,6,10] (.p [2003] (.p [2007] (.p [8] (.f [11,12,13,14]) (.f [13,11,12,14])) (.f [13,8,11,12,14])) (.p [] (.p [8] (.p [2007] (.f [11,12,13,14]) (.f [13,11,12,14])) (.f [13,2007,11,12,14])) (.f [13,8,2007,11,12,14]))) (.p [] (.p [8] (.p [2003] (.p [2007] (.f [11,12,13,14]) (.f [13,11,12,14])) (.f [13,2007,11,12,14])) (.f [13,2003,2007,11,12,14])) (.f [13,8,2003,2007,11,12,14])))),([1,1,1,1,1,1,1,0],(.p [0,1,3,5] (.p [2] (.f [4,6,7,8,9,10]) (.p [6,7] (.f [4,8,9,10]) (.f [8,4,9,10]))) (.p [] (.p [4] (.f [2,6,7,8,9,10]) (.f [6,2,7,8,9,10])) (.p [6,2,7] (.f [4,8,9,10]) (.f [8,4,9,10]))))),([1,1,1,1,1,1,1,1,1,0],(.p [0,1] (.p [2] (.f [3,4,5]) (.f [4,3,5])) (.f [3,2,4,5])))]=c}:=⟨_,by conv=>lhs;reduce⟩
def qE:CC:=(fun (c:CC) (_:(aGg.1.aV [1,1,1,1,1,1,1])=c)=>c) _ (by conv=>lhs;reduce)
def qF:CC:=(fun (c:CC->CC) (_:(fun a0=>(aGg.1.aV [1,1,1,1,1,1]).aU [1] a0)=c)=>c) _ (by conv=>lhs;reduce) qE
def aEy:CC:=(fun (c:CC) (_:(aGg.1.aV [1,1,1,1,1,0,1,0,0])=c)=>c) _ (by conv=>lhs;reduce)
def aEz:CC:=(fun (c:CC->CC) (_:(fun a0=>(aGg.1.aV [1,1,1,1,1,0,1]).aU [0,0] a0)=c)=>c) _ (by conv=>lhs;reduce) aEy
def tV:CC:=(fun (c:CC->CC->CC) (_:(fun a0 a1=>((aGg.1.aV [1,1,1]).aU [1,1,0,1] a0).aU [1,1,1] a1)=c)=>c) _ (by conv=>lhs;reduce) aEz qF
def aP6:CC:=(fun (c:CC->CC) (_:(fun a0=>(aGg.1).aU [1,1,1] a0)=c)=>c) _ (by conv=>lhs;reduce) tV
theorem aSb:aX Tryz.prog 102 aP6 [.ce 4 41 10 true,.ce 5 94 5 true] 169:=aX.of Tryz.f102 Tryz.func102 rfl ⟨by kernel_rfl,by kernel_rfl,trivial⟩
def a1f:{c:CC // aJ Tryz.prog 152=c}:=⟨_,by conv=>lhs;reduce⟩
def aT1:{c:CC // bA Tryz.prog 152 {} a1f.1 [([1,0,1,0,0,1,0,0,0],(.f [0,1,2,4,5,1003,6,7,8,9]))]=c}:=⟨_,by conv=>lhs;reduce⟩
def aDV:CC:=(fun (c:CC) (_:(aT1.1.aV [1,0,1,0,0])=c)=>c) _ (by conv=>lhs;reduce)
def aDW:CC:=(fun (c:CC->CC) (_:(fun a0=>(aT1.1.aV [1,0,1]).aU [0,0] a0)=c)=>c) _ (by conv=>lhs;reduce) aDV
def aPB:CC:=(fun (c:CC->CC) (_:(fun a0=>(aT1.1).aU [1,0,1] a0)=c)=>c) _ (by conv=>lhs;reduce) aDW
theorem aWp:aZ Tryz.prog 152 aPB [6,7] 41:=aZ.of Tryz.f152 Tryz.func152 rfl
def zS (y:AV):Prop:=∃ l:List Ask,∃ e:Int,y= .tup [.sl false 8 (l.map ASK),.int .i64 e]/\(e=0->l.length<=8/\∀ z∈l,jT z)
theorem zR {y:AV} (h:zS y):y.low=true:=by
 obtain ⟨l,e,rfl,_⟩:=h
 rfl
theorem aFi (s:Sta) (l m:List Ask) (hl:l.length<=8) (ho:∀ z∈l,jT z) (hm:m.length<=8):aW Tryz.prog 152 [.agg (stC s),.sl false 8 (l.map ASK),.sl false 8 (m.map ASK)] [] fun y _=>zS y:=by
 have bad:∀ e:Int,e≠0->∃ z,Wk4 (.tup [.aD,.int .i64 e]) z/\zS z:=fun e he=>⟨.tup [.sl false 8 (([]:List Ask).map ASK),.int .i64 e],.of3 (.inr ⟨_,_,rfl,rfl,.inl (.inr ⟨rfl,_,_,rfl⟩),.inl (.inl rfl),trivial⟩),[],e,rfl,fun h=>absurd h he⟩
 refine cX (aK aWp (by simp) ?_)
 unfold aPB
 refine Yb ?_
 unfold aDW
 refine Ya ?_
 refine aF (σ:=Nat×List Ask) (fun p=>⟨[(1,.sl false 8 (p.2.map ASK)),(2,.sl false 8 (m.map ASK)),(3,.ref 0 0 0),(8,.int .i64 (p.1:Int))],[.box (stC s)]⟩) (fun p=>p.1<=m.length/\p.2.length<=8/\∀ z∈p.2,jT z) (fun p=>m.length-p.1) (0,l) (.inl rfl) ⟨by simp,hl,ho⟩ ?_
 rintro ⟨k,g⟩ ⟨hk,hg8,hgo⟩
 simp only at hk hg8 hgo
 unfold aDV
 by_cases hkl:k<m.length
 · have hg:m.getD k default=m[k]:=by simp [hkl]
   simp -implicitDefEqProofs(disch:=first|decide|omega)only[↓aA,aC,aB,simprocAttr,bB,bF,hg]
   repeat refine And.intro (by omega) ?_
   have c178:=aFv m[k] s.labels.length
   unfold ASK fC at c178
   refine aH c178 rfl (by rintro _ ⟨_,rfl,_⟩;rfl) ?_
   rintro _ ⟨e,rfl,he⟩
   by_cases h0:e=0
   case neg =>
    refine Xb h0 ?_
    exact bad e h0
   simp -implicitDefEqProofs(disch:=first|decide|omega)only[↓aA,aC,aB,simprocAttr,bB,bF,h0,hg]
   repeat refine And.intro (by omega) ?_
   have hc:=he h0
   have c179:=aMI g (by omega) m[k]
   unfold ASK fC at c179
   refine aE (aI.of (aM:=false) (c179) (.refl rfl) rfl (by simp)) ?_
   unfold z6
   by_cases h8:8<(oE g m[k]).length
   · refine Xb h8 ?_
     exact bad 4 (by decide)
   · refine Xb h8 ?_
     exact ⟨(k+1,oE g m[k]),.inl rfl,⟨by simp only;omega,by simp only;omega,aKU hgo hc.prio hc.label.1 hc.size hc.count hc.node hc.rack⟩,by simp only;omega⟩
 · refine Yb ?_
   exact ⟨_,fun _ _ _ hv=>hv,g,0,rfl,fun _=>⟨hg8,hgo⟩⟩
theorem aHX {B:Nat} (s:Sta) (hs:s.apps.length<=16) (x:Inp) (a:App) (l:List Ask) (g:List Int) (cl:List bD) (il gl:List Int) (ht:II B (iJ s (mV a l g s.now x.beat))) :
 aw Tryz.prog qE (oN [.ce 4 41 10 true,.ce 5 94 5 true] fun y _=>∃ z,Wk4 y z/\eZ B z) ⟨[(2,.ref 0 0 0),(3,.ref 1 0 0),(4,.ref 2 0 0),(5,.ref 3 0 0),(6,.ref 4 0 0),(8,.sl false 8 (l.map ASK)),(13,.ref 5 0 0)],[.box (stC s),.box (bZ x),.box [.aD,.aD,.aD,.aD,.aD,.aD,.aD,.int .i64 0,.int .i64 0,.int .i64 0],.box [.int .i64 0,.aD,.aD,.aD,.int .i64 0],.box (bI { a with grants:=g }),.box (l6 0 cl il gl 0)]⟩:=by
 unfold qE
 have c44:=gB s (by omega) (mV a l g s.now x.beat)
 simp -implicitDefEqProofs(disch:=first|decide|omega)only[↓aA,aC,aB,simprocAttr,bB,bI,bZ,l6]
 repeat' (with_reducible apply And.intro)
 all_goals try omega
 all_goals
  refine aE (aI.of (aM:=false) c44 (.cons (Vw.refl rfl) (.cons (Vw.wk (.inl (.inr ⟨_,_,rfl,rfl,by simp [WkL,Wk1,bI,mV]⟩)) rfl) .nil)) rfl (by simp)) ?_
  simp -implicitDefEqProofs(disch:=first|decide|omega)only[↓aA,aC,aB,simprocAttr,bB,bI,bZ,l6]
  repeat' (with_reducible apply And.intro)
  all_goals exact cO ht 0 0 (.inr ⟨_,rfl⟩) (.inr ⟨_,rfl⟩) (.inr ⟨_,rfl⟩)
theorem aMB {B:Nat} (s:Sta) (hs:s.apps.length<=16) (hc:s.conts.length<=201) (x:Inp) (a:App) (hk:a.kills.length<=2^40) (l:List Ask) (g:List Int) (hg:g.length<=2^40) (ht:II B (iJ s (mV a l g s.now x.beat))) :
 aw Tryz.prog qF (oN [.ce 4 41 10 true,.ce 5 94 5 true] fun y _=>∃ z,Wk4 y z/\eZ B z) ⟨[(2,.ref 0 0 0),(3,.ref 1 0 0),(4,.ref 2 0 0),(5,.ref 3 0 0),(6,.ref 4 0 0),(8,.sl false 8 (l.map ASK))],[.box (stC s),.box (bZ x),.box [.aD,.aD,.aD,.aD,.aD,.aD,.aD,.int .i64 0,.int .i64 0,.int .i64 0],.box [.int .i64 0,.aD,.aD,.aD,.int .i64 0],.box (bI { a with grants:=g })]⟩:=by
 unfold qF
 have t149:=fun cl il gl=>aHX s hs x a l g cl il gl ht
 simp -implicitDefEqProofs(disch:=first|decide|omega)only[↓aA,aC,aB,simprocAttr,bB,bI,bZ]
 repeat' first
  | with_reducible apply And.intro
  | (refine a7 (vC false s (by omega) g hg) rfl (by rintro _ ⟨_,rfl⟩;rfl) ?_;rintro _ ⟨_,rfl⟩;simp -implicitDefEqProofs(disch:=first|decide|omega)only[↓aA,aC,aB,simprocAttr,bB,bI,bZ])
  | (refine a7 (qR s (by omega) a.id) rfl (by rintro _ ⟨_,rfl⟩;rfl) ?_;rintro _ ⟨_,rfl⟩;simp -implicitDefEqProofs(disch:=first|decide|omega)only[↓aA,aC,aB,simprocAttr,bB,bI,bZ])
  | omega
 all_goals rename List bD=>cl
 all_goals rename List Int=>il
 all_goals first
  | refine dF 5 rfl ?_
  | refine dF 6 rfl ?_
  | refine dF 7 rfl ?_
 all_goals simp -implicitDefEqProofs(disch:=first|decide|omega)only[↓aA,aC,aB,simprocAttr,AO.fz,AV.fz1,bZ]
 all_goals refine sD ⟨[(2,.ref 0 0 0),(3,.ref 1 0 0),(4,.ref 2 0 0),(5,.ref 3 0 0),(6,.ref 4 0 0),(8,.sl false 8 (l.map ASK)),(13,.ref 5 0 0)],[.box (stC s),.box (bZ x),.box [.aD,.aD,.aD,.aD,.aD,.aD,.aD,.int .i64 0,.int .i64 0,.int .i64 0],.box [.int .i64 0,.aD,.aD,.aD,.int .i64 0],.box (bI { a with grants:=g }),.box (l6 0 cl il a.kills 0)]⟩ ?_ (t149 cl il a.kills)
 all_goals unfold stC bI l6 bZ
 all_goals first
  | (show Sub _ ⟨[_,_,_,_,_,_,(13,AV.ref 5 0 0)],_⟩ _
     exact Sub.ofS [some 0,some 1,some 2,some 3,some 4,some 5])
  | (show Sub _ ⟨[_,_,_,_,_,_,(13,AV.ref 6 0 0)],_⟩ _
     exact Sub.ofS [some 0,some 1,some 2,some 3,some 4,some 6])
  | (show Sub _ ⟨[_,_,_,_,_,_,(13,AV.ref 7 0 0)],_⟩ _
     exact Sub.ofS [some 0,some 1,some 2,some 3,some 4,some 7])
set_option maxHeartbeats 1000000 in
theorem aH4 {B:Nat} (s:Sta) (h:II B s) (hB:B+1<=2^39) (x:Inp) (hx:aBl x) (a:App) (ha:a∈s.apps) :
 aw Tryz.prog tV (oN [.ce 4 41 10 true,.ce 5 94 5 true] fun y _=>∃ z,Wk4 y z/\eZ (B+1) z) ⟨[(2,.ref 0 0 0),(3,.ref 1 0 0),(4,.ref 2 0 0),(5,.ref 3 0 0),(6,.ref 4 0 0)],[.box (stC s),.box (bZ x),.box [.aD,.aD,.aD,.aD,.aD,.aD,.aD,.int .i64 0,.int .i64 0,.int .i64 0],.box [.int .i64 0,.aD,.aD,.aD,.int .i64 0],.box (bI a)]⟩:=by
 have K:=okS h (by omega)
 have hr:=h.aR a ha
 have bad:∀ e:Int,∃ y,Wk4 (.tup [.agg (stC s),.agg [.int .i64 e,.aD,.aD,.aD,.int .i64 0]]) y/\eZ (B+1) y:=fun e=>cO (h.mono (by omega)) e 0 (.inl rfl) (.inl rfl) (.inl rfl)
 unfold tV
 simp -implicitDefEqProofs(disch:=first|decide|omega)only[↓aA,aC,aB,simprocAttr,bB,bI,bZ]
 refine aH (aFi s a.asks x.asks hr.asks hr.ask hx.asks) rfl (fun y hy=>zR hy) ?_
 rintro _ ⟨l,e,rfl,he⟩
 by_cases h0:e=0
 case neg =>
  refine Xb h0 ?_
  refine aE (aI.of (aM:=false) (dJ s e) (.refl rfl) rfl (by simp)) ?_
  refine Yb ?_
  exact bad e
 obtain ⟨hl8,hlo⟩:=he h0
 refine Xb h0 ?_
 unfold aEz
 refine Ya ?_
 refine aF (σ:=Nat×Sta×List Int) (fun p=>⟨[(2,.ref 0 0 0),(3,.ref 1 0 0),(4,.ref 2 0 0),(5,.ref 3 0 0),(6,.ref 4 0 0),(8,.sl false 8 (l.map ASK)),(10,.int .i64 (p.1:Int))],[.box (stC p.2.1),.box (bZ x),.box [.aD,.aD,.aD,.aD,.aD,.aD,.aD,.int .i64 0,.int .i64 0,.int .i64 0],.box [.int .i64 0,.aD,.aD,.aD,.int .i64 0],.box (bI { a with grants:=p.2.2 })]⟩) (fun p=>p.1<=x.ids.length/\II B p.2.1/\p.2.2.length<=a.grants.length/\p.2.1.apps=s.apps/\p.2.1.now=s.now) (fun p=>x.ids.length-p.1) (0,s,a.grants) ?_ ⟨by simp,h,Nat.le_refl _,rfl,rfl⟩ ?_
 · (try unfold stC);(try unfold bI);(try unfold bZ)
   exact Sub.ofS [some 0,some 1,some 2,some 3,some 4]
 rintro ⟨k,t,g⟩ ⟨hk,ht,hgl,hap,hno⟩
 simp only at hk ht hgl hap hno
 have hxi:=hx.ids
 have K2:=okS ht (by omega)
 have hgr:=hr.gl
 unfold aEy
 by_cases hkl:k<x.ids.length
 · have hg:x.ids.getD k default=x.ids[k]:=by simp [hkl]
   have c92:=kY t (by have:=K2.st.k;omega) x.ids[k]
   unfold dT at c92
   have hback:=zF a.id [x.ids[k]] (q:=(t,g)) ht
   have hb1:pE a.id [x.ids[k]] (t,g)=lY a.id (t,g) x.ids[k]:=rfl
   rw [hb1] at hback
   unfold lY at hback
   simp only at hback
   simp -implicitDefEqProofs(disch:=first|decide|omega)only[↓aA,aC,aB,simprocAttr,bB,bI,bZ,hg,I64]
   repeat refine And.intro (by omega) ?_
   refine bP (c92) rfl rfl ?_
   cases hf:gR x.ids[k] t.conts with
   | none =>
     simp -implicitDefEqProofs(disch:=first|decide|omega)only[↓aA,aC,aB,simprocAttr,bB,aY,bI,bZ,Option.isSome_none,Option.getD_none]
     refine ⟨(k+1,t,g),?_,⟨by simp only;omega,ht,hgl,hap,hno⟩,by simp only;omega⟩
     (try unfold stC);(try unfold bI);(try unfold bZ)
     exact Sub.ofS [some 0,some 1,some 2,some 3,some 4]
   | some c =>
     rw [hf] at hback
     simp only at hback
     by_cases h1:c.app=a.id
     case neg =>
      simp -implicitDefEqProofs(disch:=first|decide|omega)only[↓aA,aC,aB,simprocAttr,bB,aY,bI,bZ,Option.isSome_some,Option.getD_some,h1]
      refine ⟨(k+1,t,g),?_,⟨by simp only;omega,ht,hgl,hap,hno⟩,by simp only;omega⟩
      (try unfold stC);(try unfold bI);(try unfold bZ)
      exact Sub.ofS [some 0,some 1,some 2,some 3,some 4]
     cases h2:c.master
     case true =>
      simp -implicitDefEqProofs(disch:=first|decide|omega)only[↓aA,aC,aB,simprocAttr,bB,aY,bI,bZ,Option.isSome_some,Option.getD_some,h1,h2]
      refine ⟨(k+1,t,g),?_,⟨by simp only;omega,ht,hgl,hap,hno⟩,by simp only;omega⟩
      (try unfold stC);(try unfold bI);(try unfold bZ)
      exact Sub.ofS [some 0,some 1,some 2,some 3,some 4]
     rw [h1,h2] at hback
     simp only [beq_self_eq_true,Bool.not_false,Bool.and_self,if_true] at hback
     obtain ⟨q1,q2,q3,q4,-⟩:=hback
     simp -implicitDefEqProofs(disch:=first|decide|omega)only[↓aA,aC,aB,simprocAttr,bB,aY,bI,bZ,Option.isSome_some,Option.getD_some,h1,h2]
     refine aE (aI.of (aM:=false) (aEL t (by have:=K2.st.k;omega) c.id) (.refl rfl) rfl (by simp)) ?_
     simp -implicitDefEqProofs(disch:=first|decide|omega)only[↓aA,aC,aB,simprocAttr,bB,aY,bI,bZ]
     refine aE (aI.of (aM:=false) (r9 g (by omega) c.id) (.refl rfl) rfl (by simp)) ?_
     simp -implicitDefEqProofs(disch:=first|decide|omega)only[↓aA,aC,aB,simprocAttr,bB,bI,bZ]
     refine ⟨(k+1,mR t c.id,g.filter fun j=>j !=c.id),?_,⟨by simp only;omega,q1,Nat.le_trans (List.length_filter_le _ _) hgl,q3.trans hap,q4.trans hno⟩,by simp only;omega⟩
     (try unfold stC);(try unfold bI);(try unfold bZ)
     exact Sub.ofS [some 0,some 1,some 2,some 3,some 4]
 · simp -implicitDefEqProofs(disch:=first|decide|omega)only[↓aA,aC,aB,simprocAttr,bB,bI,bZ]
   have key:=aGw ht (a:=a) (by rw [hap];exact ha) (l:=l) (g:=g) (b:=x.beat) hl8 hlo (by omega)
   exact aMB t K2.st.a K2.st.k x a (by have:=hr.kl;omega) l g (by omega) key
set_option maxHeartbeats 1000000 in
theorem aAo {B:Nat} (s:Sta) (h:II B s) (hB:B+1<=2^39) (x:Inp) (hx:aBl x):aW Tryz.prog 102 [.agg (stC s),.agg (bZ x)] [] fun y _=>eZ (B+1) y:=by
 have K:=okS h (by omega)
 have bad:∀ e:Int,∃ y,Wk4 (.tup [.agg (stC s),.agg [.int .i64 e,.aD,.aD,.aD,.int .i64 0]]) y/\eZ (B+1) y:=fun e=>cO (h.mono (by omega)) e 0 (.inl rfl) (.inl rfl) (.inl rfl)
 refine cX (aO aSb (by simp) ?_)
 unfold aP6
 have c40:=gV s (by have:=K.st.a;omega) x.id
 unfold dT at c40
 simp -implicitDefEqProofs(disch:=first|decide|omega)only[↓aA,aC,aB,simprocAttr,bB,bI,bZ]
 refine aE (aI.of (aM:=false) (c40) (.refl rfl) rfl (by simp)) ?_
 cases hf:dP x.id s.apps with
 | none =>
   simp -implicitDefEqProofs(disch:=first|decide|omega)only[↓aA,aC,aB,simprocAttr,bB,a9,bZ,Option.isSome_none,Option.getD_none]
   refine aE (aI.of (aM:=false) (dJ s 2) (.refl rfl) rfl (by simp)) ?_
   simp -implicitDefEqProofs(disch:=first|decide|omega)only[↓aA,aC,aB,simprocAttr,bB]
   exact bad 2
 | some a =>
   have ha:=(jG hf).1
   have hr:=h.aR a ha
   by_cases h1:a.state=2
   case neg =>
    simp -implicitDefEqProofs(disch:=first|decide|omega)only[↓aA,aC,aB,simprocAttr,bB,APP,bI,bZ,Option.isSome_some,Option.getD_some,h1]
    refine aE (aI.of (aM:=false) (dJ s 14) (.refl rfl) rfl (by simp)) ?_
    simp -implicitDefEqProofs(disch:=first|decide|omega)only[↓aA,aC,aB,simprocAttr,bB]
    exact bad 14
   by_cases h2:x.beat<a.beat
   · simp -implicitDefEqProofs(disch:=first|decide|omega)only[↓aA,aC,aB,simprocAttr,bB,APP,bI,bZ,Option.isSome_some,Option.getD_some,h1]
     refine aE (aI.of (aM:=false) (dJ s 15) (.refl rfl) rfl (by simp)) ?_
     simp -implicitDefEqProofs(disch:=first|decide|omega)only[↓aA,aC,aB,simprocAttr,bB]
     exact bad 15
   by_cases h3:x.beat=a.beat
   · have hll:=hr.ll
     simp -implicitDefEqProofs(disch:=first|decide|omega)only[↓aA,aC,aB,simprocAttr,bB,APP,bI,bZ,Option.isSome_some,Option.getD_some,h1,h3]
     repeat' first
      | with_reducible apply And.intro
      | (refine a7 (vC false s (by have:=K.st.k;omega) a.told (by have:=hr.tl;omega)) rfl (by rintro _ ⟨_,rfl⟩;rfl) ?_;rintro _ ⟨_,rfl⟩;simp -implicitDefEqProofs(disch:=first|decide|omega)only[↓aA,aC,aB,simprocAttr,bB,bI,bZ])
      | (refine a7 (qR s (by have:=K.st.k;omega) a.id) rfl (by rintro _ ⟨_,rfl⟩;rfl) ?_;rintro _ ⟨_,rfl⟩;simp -implicitDefEqProofs(disch:=first|decide|omega)only[↓aA,aC,aB,simprocAttr,bB,bI,bZ])
      | omega
     all_goals first
      | refine dF 4 rfl ?_
      | refine dF 5 rfl ?_
      | refine dF 6 rfl ?_
      | refine dF 7 rfl ?_
     all_goals simp -implicitDefEqProofs(disch:=first|decide|omega)only[↓aA,aC,aB,simprocAttr,AO.fz,AV.fz1,bZ]
     all_goals refine dZ ?_
     all_goals simp -implicitDefEqProofs(disch:=first|decide|omega)only[↓aA,aC,aB,simprocAttr,bB]
     all_goals exact cO (h.mono (by omega)) 0 0 (.inr ⟨_,rfl⟩) (.inr ⟨_,rfl⟩) (.inr ⟨_,rfl⟩)
   by_cases h4:IntKind.i64.wrap (x.beat-1)>a.beat
   · simp -implicitDefEqProofs(disch:=first|decide|omega)only[↓aA,aC,aB,simprocAttr,bB,APP,bI,bZ,Option.isSome_some,Option.getD_some,h1,h3,h4]
     refine aE (aI.of (aM:=false) (dJ s 1) (.refl rfl) rfl (by simp)) ?_
     simp -implicitDefEqProofs(disch:=first|decide|omega)only[↓aA,aC,aB,simprocAttr,bB]
     exact bad 1
   · simp -implicitDefEqProofs(disch:=first|decide|omega)only[↓aA,aC,aB,simprocAttr,bB,APP,bI,bZ,Option.isSome_some,Option.getD_some,h1,h3,h4]
     have e:=aH4 s h hB x hx a ha
     unfold bI at e
     rw [h1] at e
     exact e
theorem aG5 {B:Nat} {s:Sta} (h:II B s) (n:Node):II B (kA s n).1:=by
 unfold kA
 split
 · exact h
 rename_i hb
 have hok:mS B s.labels.length s.now (hE s n):=by
  unfold jL at hb
  exact ⟨by simp only [hE];omega,by simp only [hE];omega,by simp only [hE];omega,by simp only [hE];omega,by simp only [hE];omega,⟨by simp only [hE];exact h.now.1,by simp only [hE];exact Int.le_refl _⟩,trivial⟩
 cases hf:eH n.id s.nodes with
 | none =>
   have hn:=List.find?_eq_none.1 hf
   simp only
   split
   · exact h
   · exact aBy h hok (fun x hx he=>absurd he (by have:=hn x hx;simpa [hE] using this)) (.inr (by omega))
 | some x =>
   obtain ⟨hx,hid⟩:=gG hf
   simp only
   split
   · exact h
   · rename_i hu
     refine aBy h hok (fun y hy he=>?_) (.inl ⟨x,hx,hid⟩)
     have h1:=y5 h.nS hy
     have he:y.id=n.id:=he
     rw [he,hf] at h1
     cases h1
     simpa using hu
theorem aGX {B:Nat} {s:Sta} (h:II B s) (hl:(s.apps.filter live).length<16):II B (lU s)/\(lU s).apps.length<16/\(lU s).apps.Sublist s.apps/\(lU s).now=s.now/\(lU s).qs=s.qs:=by
 have haL:=h.aL
 unfold lU
 split
 · have hlen:s.apps.length=16:=by omega
   have:=tG (l:=s.apps) (by omega)
   exact ⟨aKe h (lN _) (fun a ha hv=>qU ha hv),by simp only;omega,lN _,rfl,rfl⟩
 · exact ⟨h,by omega,List.Sublist.refl _,rfl,rfl⟩
theorem aGA {B:Nat} {s:Sta} (h:II B s) (a:App) (hi:a.id<=8999):II B (pJ s a).1:=by
 unfold pJ
 split
 · exact h
 rename_i hb
 split
 · exact h
 rename_i hf
 split
 · exact h
 rename_i hl
 split
 · rename_i hq
   obtain ⟨r1,r2,r3,r4,r5⟩:=aGX h (by omega)
   have hnone:dP a.id s.apps=none:=by simpa using hf
   have hno:=List.find?_eq_none.1 hnone
   have hq60:a.queue.length<=60:=by
    unfold iM at hq
    rw [Bool.and_eq_true] at hq
    obtain ⟨q,hq1⟩:=Option.isSome_iff_exists.1 hq.1
    have h1:=List.mem_of_find?_eq_some hq1
    have h2:=List.find?_some hq1
    have h2:q.path=a.queue:=by simpa using h2
    rw [<- h2]
    exact (h.ck.t.qr q h1).path
   unfold vX at hb
   have hok:iV B (lU s).now (hY a (lU s).now):=aFf r1.now.1 (by omega) (by omega) (by omega) ⟨by omega,by omega,by omega,by omega⟩ hq60
   have:=aNV r1 hok rfl rfl (fun x hx=>by have:=hno x (r3.subset hx);simpa [hY] using this) r2 (by rw [r5];exact hq)
   rw [r4] at this
   exact this
 · exact h
set_option maxHeartbeats 4000000 in
theorem s5 {B:Nat} (s:Sta) (h:II B s) (hB:B+4000<=2^39) (x:Inp) (hx:aBl x):aW Tryz.prog 55 [.agg (stC s),.agg (bZ x)] [] fun y _=>eZ (B+4000) y:=by
 have K:=okS h (by omega)
 have bad:∀ e:Int,∃ y,Wk4 (.tup [.agg (stC s),.agg [.int .i64 e,.aD,.aD,.aD,.int .i64 0]]) y/\eZ (B+4000) y:=fun e=>cO (h.mono (by omega)) e 0 (.inl rfl) (.inl rfl) (.inl rfl)
 have fin:∀ {B':Nat},B'<=B+4000->∀ {s':Sta} {e:Int} {c:List bD} {i g:List Int} {n:Int},II B' s'->∃ y,Wk4 (.tup [.agg (stC s'),.agg (l6 e c i g n)]) y/\eZ (B+4000) y:=fun hb _ _ _ _ _ _ h'=>⟨_,.refl _,_,_,_,_,_,_,rfl,h'.mono hb⟩
 have k100:=aH1 s h (by omega) x.text hx.text
 have k18:=aMm s (by have:=K.st.n;omega) (by have:=K.st.c.l3;omega) x.node
 have k101:=aH3 s h (by omega) x hx
 have k37:=aEY s (by have:=K.st.a;omega) K.q x.app
 have k102:=aAo s h (by omega) x hx
 have k104:=aHY s h hB x.n
 have k105:=aLy s h (by omega) x.plan x.n
 have k106:=aHh s h x.id
 have i18:=aG5 h x.node
 have i37:=aGA h x.app hx.aid
 unfold sH at k18 k37
 unfold bO cB at k18
 unfold APP bI at k37
 unfold eD fA at k105
 unfold bZ at k101 k102
 generalize kA s x.node=q18 at k18 i18
 generalize pJ s x.app=q37 at k37 i37
 refine cX (aO aVl (by simp) ?_)
 unfold aXz
 by_cases c1:x.kind=1
 · simp -implicitDefEqProofs(disch:=first|decide|omega)only[↓aA,aC,aB,simprocAttr,bB,bZ,c1]
   refine aH k100 rfl (fun y hy=>fL hy) ?_
   rintro _ ⟨s',e,c,i,g,n,rfl,h'⟩
   refine Yl ?_
   exact fin (by omega) h'
 by_cases c2:x.kind=2
 · simp -implicitDefEqProofs(disch:=first|decide|omega)only[↓aA,aC,aB,simprocAttr,bB,bZ,c2]
   refine aE (aI.of (aM:=false) (k18) (.refl rfl) rfl (by simp)) ?_
   refine Yb ?_
   exact cO (i18.mono (by omega)) _ 0 (.inl rfl) (.inl rfl) (.inl rfl)
 by_cases c3:x.kind=3
 · rw [c3] at k101
   simp -implicitDefEqProofs(disch:=first|decide|omega)only[↓aA,aC,aB,simprocAttr,bB,bZ,c3]
   refine aH k101 rfl (fun y hy=>fL hy) ?_
   rintro _ ⟨s',e,c,i,g,n,rfl,h'⟩
   refine Yl ?_
   exact fin (by omega) h'
 by_cases c4:x.kind=4
 · simp -implicitDefEqProofs(disch:=first|decide|omega)only[↓aA,aC,aB,simprocAttr,bB,bZ,c4]
   refine aE (aI.of (aM:=false) (k37) (.refl rfl) rfl (by simp)) ?_
   refine Yb ?_
   exact cO (i37.mono (by omega)) _ 0 (.inl rfl) (.inl rfl) (.inl rfl)
 by_cases c5:x.kind=5
 · rw [c5] at k102
   simp -implicitDefEqProofs(disch:=first|decide|omega)only[↓aA,aC,aB,simprocAttr,bB,bZ,c5]
   refine aH k102 rfl (fun y hy=>fL hy) ?_
   rintro _ ⟨s',e,c,i,g,n,rfl,h'⟩
   refine Yl ?_
   exact fin (by omega) h'
 by_cases c6:x.kind=6
 · simp -implicitDefEqProofs(disch:=first|decide|omega)only[↓aA,aC,aB,simprocAttr,bB,bZ,c6]
   refine aH (aBE s h (by omega) x.id 3 (.inl rfl)) rfl (fun y hy=>fL hy) ?_
   rintro _ ⟨s',e,c,i,g,n,rfl,h'⟩
   refine Yl ?_
   exact fin (by omega) h'
 by_cases c7:x.kind=7
 · simp -implicitDefEqProofs(disch:=first|decide|omega)only[↓aA,aC,aB,simprocAttr,bB,bZ,c7]
   refine aH (aBE s h (by omega) x.id 4 (.inr rfl)) rfl (fun y hy=>fL hy) ?_
   rintro _ ⟨s',e,c,i,g,n,rfl,h'⟩
   refine Yl ?_
   exact fin (by omega) h'
 by_cases c8:x.kind=8
 · simp -implicitDefEqProofs(disch:=first|decide|omega)only[↓aA,aC,aB,simprocAttr,bB,bZ,c8]
   refine aH k104 rfl (fun y hy=>fL hy) ?_
   rintro _ ⟨s',e,c,i,g,n,rfl,h'⟩
   refine Yl ?_
   exact fin (by omega) h'
 by_cases c9:x.kind=9
 · simp -implicitDefEqProofs(disch:=first|decide|omega)only[↓aA,aC,aB,simprocAttr,bB,bZ,c9]
   refine aH k105 rfl (fun y hy=>aKo hy) ?_
   rintro _ ⟨s',n,e,rfl,h'⟩
   refine Yb ?_
   exact cO (h'.mono (by omega)) _ _ (.inl rfl) (.inl rfl) (.inl rfl)
 by_cases c10:x.kind=10
 · simp -implicitDefEqProofs(disch:=first|decide|omega)only[↓aA,aC,aB,simprocAttr,bB,bZ,c10]
   refine aH k106 rfl (fun y hy=>aFT hy) ?_
   rintro _ ⟨s',e,rfl,h'⟩
   refine Yb ?_
   exact cO (h'.mono (by omega)) _ _ (.inl rfl) (.inl rfl) (.inl rfl)
 by_cases c11:x.kind=11
 · by_cases he:s.ep>=1048576
   · simp -implicitDefEqProofs(disch:=first|decide|omega)only[↓aA,aC,aB,simprocAttr,bB,bZ,c11,he]
     refine aE (aI.of (aM:=false) (dJ s 11) (.refl rfl) rfl (by simp)) ?_
     refine Yb ?_
     exact bad 11
   · have hep:=h.ep
     have h':II (B+4000) _:=(aFP h (by omega)).mono (by omega)
     simp -implicitDefEqProofs(disch:=first|decide|omega)only[↓aA,aC,aB,simprocAttr,bB,bZ,c11,he]
     repeat refine And.intro (by omega) ?_
     exact cO h' _ _ (.inl rfl) (.inl rfl) (.inl rfl)
 simp -implicitDefEqProofs(disch:=first|decide|omega)only[↓aA,aC,aB,simprocAttr,bB,bZ,c1,c2,c3,c4,c5,c6,c7,c8,c9,c10,c11]
 refine aE (aI.of (aM:=false) (dJ s 3) (.refl rfl) rfl (by simp)) ?_
 refine Yb ?_
 exact bad 3
def R16:{c:CC // aJ Tryz.prog 16=c}:=⟨_,by conv=>lhs;reduce⟩
def S16:{c:CC // bA Tryz.prog 16 {} R16.1 []=c}:=⟨_,by conv=>lhs;reduce⟩
def a2x:CC:=(fun (c:CC) (_:(S16.1)=c)=>c) _ (by conv=>lhs;reduce)
theorem a2C:aZ Tryz.prog 16 a2x [4] 15:=aZ.of Tryz.f16 Tryz.func16 rfl
def R34:{c:CC // aJ Tryz.prog 34=c}:=⟨_,by conv=>lhs;reduce⟩
def S34:{c:CC // bA Tryz.prog 34 {} R34.1 [([1,1,0,1,0,0,1,0,0,0],(.f [1,3,0,2,4,5,6,7]))]=c}:=⟨_,by conv=>lhs;reduce⟩
def aJJ:CC:=(fun (c:CC) (_:(S34.1.aV [1,1,0,1,0,0])=c)=>c) _ (by conv=>lhs;reduce)
def aJK:CC:=(fun (c:CC->CC) (_:(fun a0=>(S34.1.aV [1,1,0,1]).aU [0,0] a0)=c)=>c) _ (by conv=>lhs;reduce) aJJ
def aXI:CC:=(fun (c:CC->CC) (_:(fun a0=>(S34.1).aU [1,1,0,1] a0)=c)=>c) _ (by conv=>lhs;reduce) aJK
theorem aYY:aZ Tryz.prog 34 aXI [2] 30:=aZ.of Tryz.f34 Tryz.func34 rfl
def a1C:{c:CC // aJ Tryz.prog 112=c}:=⟨_,by conv=>lhs;reduce⟩
def aZV:{c:CC // bA Tryz.prog 112 {} a1C.1 []=c}:=⟨_,by conv=>lhs;reduce⟩
def aPZ:CC:=(fun (c:CC) (_:(aZV.1)=c)=>c) _ (by conv=>lhs;reduce)
theorem aWJ:aZ Tryz.prog 112 aPZ [4] 15:=aZ.of Tryz.f112 Tryz.func112 rfl
end Go.Proofs.YtakemdamegfcfaaGreat
