/- A part of a proof: what functions of the program compute. No condition. -/
import Derived.Test.YtakemdamegfcfaaGreatT30
set_option linter.unusedSimpArgs false
set_option linter.unusedVariables false
set_option maxRecDepth 20000
namespace Go.Proofs.YtakemdamegfcfaaGreat
open Go Go.Ab
theorem rN {B:Nat} {s:Sta} (h:II B s) (ids:List Int) (hB:B+ids.length<=2^39):∀ k,k<=ids.length->SZ (fG s (ids.take k)):=fun k hk=>by
 have h1:=jN (ids.take k) h
 rw [List.length_take,Nat.min_eq_left hk] at h1
 exact (okS h1 (by omega)).sz
def stQ (B:Nat) (y:AV):Prop:=∃ s':Sta,y= .agg (stC s')/\II B s'
theorem aKI {B:Nat} {y:AV} (h:stQ B y):y.low=true:=by
 obtain ⟨s',rfl,_⟩:=h
 rfl
set_option maxHeartbeats 4000000 in
theorem aGq {B:Nat} (s:Sta) (h:II B s) (hB:B+201<=2^39) (label:Int):aW Tryz.prog 180 [.agg (stC s),.int .i64 label] [] fun y _=>stQ (B+201) y:=by
 have K:=okS h (by omega)
 have hcl:=K.st.k
 refine aO aRW (by simp) ?_
 unfold aPl
 simp -implicitDefEqProofs(disch:=first|decide|omega)only[↓aA,aC,aB,simprocAttr,bB]
 unfold aDt
 simp -implicitDefEqProofs(disch:=first|decide|omega)only[↓aA,aC,aB,simprocAttr]
 refine aF (σ:=Nat×List bD) (fun p=>⟨[(1,.int .i64 label),(2,.ref 0 0 0),(4,.ref 1 0 0),(5,.own 2 9 0 p.2.length),(6,.int .i64 ((p.1:Int)-1))],[.box (stC s),.box [.aD,.aD,.aD,.aD,.aD,.aD,.aD,.int .i64 0,.int .i64 0,.int .i64 0],.arr 9 (p.2.map bY)]⟩) (fun p=>p.1<=s.conts.length/\p.2.length+p.1<=s.conts.length) (fun p=>p.1) (s.conts.length,[]) ?_ ⟨by simp,by simp⟩ ?_
 · (refine Sub.of0 [some 0,some 1,none] rfl ?_ rfl ?_<;>repeat' first|trivial|rfl|exact .inl rfl|exact .inr ⟨rfl,_,_,rfl⟩|(simp;done)|(simp;omega)|refine And.intro ?_ ?_)
 rintro ⟨k,l⟩ ⟨hk,hl⟩
 simp only at hk hl
 unfold aDr
 cases k with
 | succ k =>
   have e:((k+1:Nat):Int)-1=k:=by omega
   rw [e]
   have hki:k<s.conts.length:=by omega
   have hg:s.conts.getD k default=s.conts[k]:=by simp [hki]
   have hx:=(h.cR _ (List.getElem_mem hki)).notice
   have hnow:=h.now
   have skip:∀ b:Unit,Sub 0 (⟨[(1,.int .i64 label),(2,.ref 0 0 0),(4,.ref 1 0 0),(5,.own 2 9 0 l.length),(6,.int .i64 ((k:Int)-1))],[.box (stC s),.box [.aD,.aD,.aD,.aD,.aD,.aD,.aD,.int .i64 0,.int .i64 0,.int .i64 0],.arr 9 (l.map bY),.box (cE s.conts[k])]⟩) ⟨[(1,.int .i64 label),(2,.ref 0 0 0),(4,.ref 1 0 0),(5,.own 2 9 0 l.length),(6,.int .i64 ((k:Int)-1))],[.box (stC s),.box [.aD,.aD,.aD,.aD,.aD,.aD,.aD,.int .i64 0,.int .i64 0,.int .i64 0],.arr 9 (l.map bY)]⟩:=fun _=>by
    (refine Sub.of0 [some 0,some 1,some 2] rfl ?_ rfl ?_<;>repeat' first|trivial|rfl|exact .inl rfl|exact .inr ⟨rfl,_,_,rfl⟩|(simp;done)|(simp;omega)|refine And.intro ?_ ?_)
   by_cases h1:s.conts[k].label=label
   case neg =>
    simp -implicitDefEqProofs(disch:=first|decide|omega)only[↓aA,aC,aB,simprocAttr,bB,aY,hg,h1]
    repeat refine And.intro (by omega) ?_
    exact ⟨(k,l),skip (),⟨by simp only;omega,by simp only;omega⟩,by simp only;omega⟩
   by_cases h2:s.conts[k].notice=0
   · simp -implicitDefEqProofs(disch:=first|decide|omega)only[↓aA,aC,aB,simprocAttr,bB,aY,hg]
     repeat refine And.intro (by omega) ?_
     exact ⟨(k,l),skip (),⟨by simp only;omega,by simp only;omega⟩,by simp only;omega⟩
   by_cases h3:s.conts[k].notice+3<=s.now
   · simp -implicitDefEqProofs(disch:=first|decide|omega)only[↓aA,aC,aB,simprocAttr,bB,aY,hg,h2]
     repeat refine And.intro (by omega) ?_
     refine ⟨(k,l++[s.conts[k]]),?_,⟨by simp only;omega,by simp;omega⟩,by simp only;omega⟩
     simp only [List.map_append,List.map_cons,List.map_nil,List.length_append,List.length_cons,List.length_nil]
     (refine Sub.of0 [some 0,some 1,some 5] rfl ?_ rfl ?_<;>repeat' first|trivial|rfl|exact .inl rfl|exact .inr ⟨rfl,_,_,rfl⟩|(simp;done)|(simp;omega)|refine And.intro ?_ ?_)
   · simp -implicitDefEqProofs(disch:=first|decide|omega)only[↓aA,aC,aB,simprocAttr,bB,aY,hg,h2]
     repeat refine And.intro (by omega) ?_
     exact ⟨(k,l),skip (),⟨by simp only;omega,by simp only;omega⟩,by simp only;omega⟩
 | zero =>
   simp -implicitDefEqProofs(disch:=first|decide|omega)only[↓aA,aC,aB,simprocAttr,bB]
   unfold aDu
   simp -implicitDefEqProofs(disch:=first|decide|omega)only[↓aA,aC,aB,simprocAttr]
   refine aF (σ:=Nat×Sta) (fun p=>⟨[(1,.int .i64 label),(2,.ref 0 0 0),(4,.ref 1 0 0),(5,.own 2 9 0 l.length),(8,.int .i64 (p.1:Int))],[.box (stC p.2),.box [.aD,.aD,.aD,.aD,.aD,.aD,.aD,.int .i64 0,.int .i64 0,.int .i64 0],.arr 9 (l.map bY)]⟩) (fun p=>p.1<=l.length/\II (B+p.1) p.2) (fun p=>l.length-p.1) (0,s) (.inl rfl) ⟨by simp,h⟩ ?_
   rintro ⟨k,t⟩ ⟨hk,ht⟩
   simp only at hk ht
   unfold aDs
   by_cases hkl:k<l.length
   · have hg:l.getD k default=l[k]:=by simp [hkl]
     have K2:=okS ht (by omega)
     have c92:=kY t (by have:=K2.st.k;omega) l[k].id
     unfold dT at c92
     simp -implicitDefEqProofs(disch:=first|decide|omega)only[↓aA,aC,aB,simprocAttr,bB,aY,hg]
     repeat refine And.intro (by omega) ?_
     refine bP (c92) rfl rfl ?_
     cases hf:gR l[k].id t.conts with
     | none =>
       simp -implicitDefEqProofs(disch:=first|decide|omega)only[↓aA,aC,aB,simprocAttr,bB,aY,Option.isSome_none,Option.getD_none]
       refine ⟨(k+1,t),?_,⟨by simp only;omega,ht.mono (by simp only;omega)⟩,by simp only;omega⟩
       (refine Sub.of0 [some 0,some 1,some 2] rfl ?_ rfl ?_<;>repeat' first|trivial|rfl|exact .inl rfl|exact .inr ⟨rfl,_,_,rfl⟩|(simp;done)|(simp;omega)|refine And.intro ?_ ?_)
     | some c =>
       simp -implicitDefEqProofs(disch:=first|decide|omega)only[↓aA,aC,aB,simprocAttr,bB,aY,Option.isSome_some,Option.getD_some]
       refine a7 (aG8 K2.st c) rfl (by rintro _ ⟨_,rfl,_⟩;rfl) ?_
       rintro _ ⟨p1,rfl,hp1⟩
       simp -implicitDefEqProofs(disch:=first|decide|omega)only[↓aA,aC,aB,simprocAttr]
       refine a7 (pV K2.st p1 hp1 label) rfl (by rintro _ ⟨_,_,rfl⟩;rfl) ?_
       rintro _ ⟨v1,v2,rfl⟩
       simp -implicitDefEqProofs(disch:=first|decide|omega)only[↓aA,aC,aB,simprocAttr]
       refine a7 (aYB K2.st c) rfl (by rintro _ ⟨_,rfl⟩;rfl) ?_
       rintro _ ⟨n1,rfl⟩
       simp -implicitDefEqProofs(disch:=first|decide|omega)only[↓aA,aC,aB,simprocAttr]
       refine a7 (aG8 K2.st c) rfl (by rintro _ ⟨_,rfl,_⟩;rfl) ?_
       rintro _ ⟨p2,rfl,hp2⟩
       simp -implicitDefEqProofs(disch:=first|decide|omega)only[↓aA,aC,aB,simprocAttr]
       refine a7 (aYA K2.st K2.w label p2 hp2) rfl (by rintro _ ⟨_,rfl⟩;rfl) ?_
       rintro _ ⟨n2,rfl⟩
       simp -implicitDefEqProofs(disch:=first|decide|omega)only[↓aA,aC,aB,simprocAttr]
       refine a8 (fun hb=>?_) (fun hb=>?_)
       · simp -implicitDefEqProofs(disch:=first|decide|omega)only[↓aA,aC,aB,simprocAttr,bB,aY]
         have c52:=rO true t [c.id] (by simp) (rN ht [c.id] (by simp only [List.length_singleton];omega))
         refine aE (aI.of (aM:=true) c52 (.cons (Vw.refl rfl) (.cons (Vw.wA (f:=I64) (l:=[c.id]) rfl rfl) .nil)) rfl (fun _=>rfl)) ?_
         simp -implicitDefEqProofs(disch:=first|decide|omega)only[↓aA,aC,aB,simprocAttr,bB]
         refine ⟨(k+1,fG t [c.id]),?_,⟨by simp only;omega,jN [c.id] ht⟩,by simp only;omega⟩
         (refine Sub.of0 [some 0,some 1,some 2] rfl ?_ rfl ?_<;>repeat' first|trivial|rfl|exact .inl rfl|exact .inr ⟨rfl,_,_,rfl⟩|(simp;done)|(simp;omega)|refine And.intro ?_ ?_)
       · simp -implicitDefEqProofs(disch:=first|decide|omega)only[↓aA,aC,aB,simprocAttr,bB,aY]
         refine aE (aI.of (aM:=false) (xA t (by have:=K2.st.k;omega) c.id 0) (.refl rfl) rfl (by simp)) ?_
         simp -implicitDefEqProofs(disch:=first|decide|omega)only[↓aA,aC,aB,simprocAttr,bB]
         refine ⟨(k+1,x6 t c.id 0),?_,⟨by simp only;omega,(x5 ht c.id 0 ⟨by omega,.inr (by omega)⟩).mono (by simp only;omega)⟩,by simp only;omega⟩
         (refine Sub.of0 [some 0,some 1,some 2] rfl ?_ rfl ?_<;>repeat' first|trivial|rfl|exact .inl rfl|exact .inr ⟨rfl,_,_,rfl⟩|(simp;done)|(simp;omega)|refine And.intro ?_ ?_)
   · simp -implicitDefEqProofs(disch:=first|decide|omega)only[↓aA,aC,aB,simprocAttr,bB]
     exact ⟨t,rfl,ht.mono (by omega)⟩
def aBn (B:Nat) (y:AV):Prop:=∃ s':Sta,∃ l:List Int,y= .tup [.agg (stC s'),.sl false 1 (l.map I64)]/\II B s'
theorem w9 {B:Nat} {y:AV} (h:aBn B y):y.low=true:=by
 obtain ⟨s',l,rfl,_⟩:=h
 rfl
set_option maxHeartbeats 4000000 in
theorem aEV {B:Nat} (s:Sta) (h:II B s) (hB:B+1000<=2^39):aW Tryz.prog 156 [.agg (stC s)] [] fun y _=>aBn (B+1000) y:=by
 have K:=okS h (by omega)
 refine aO aRZ (by simp) ?_
 unfold aPx
 simp -implicitDefEqProofs(disch:=first|decide|omega)only[↓aA,aC,aB,simprocAttr,bB]
 unfold aDP
 simp -implicitDefEqProofs(disch:=first|decide|omega)only[↓aA,aC,aB,simprocAttr]
 refine aF (σ:=Nat×Sta) (fun p=>⟨[(1,.ref 0 0 0),(2,.ref 1 0 0),(4,.ref 2 0 0),(5,.int .i64 (p.1:Int))],[.box (stC p.2),.box [.aD,.aD,.aD,.aD,.aD,.aD,.aD,.int .i64 0,.int .i64 0,.int .i64 0],.box (stC s)]⟩) (fun p=>p.1<=3/\II (B+201*p.1) p.2) (fun p=>3-p.1) (0,s) (.inl rfl) ⟨by simp,h⟩ ?_
 rintro ⟨i,t⟩ ⟨hi,ht⟩
 simp only at hi ht
 unfold aDN
 have K2:=okS ht (by omega)
 have hL:=K2.st.c.l3
 by_cases hil:i<t.labels.length
 · simp -implicitDefEqProofs(disch:=first|decide|omega)only[↓aA,aC,aB,simprocAttr,bB]
   refine aH (aGq t ht (by omega) i) rfl (fun y hy=>aKI hy) ?_
   rintro _ ⟨u,rfl,hu⟩
   simp -implicitDefEqProofs(disch:=first|decide|omega)only[↓aA,aC,aB,simprocAttr,bB]
   have K3:=okS hu (by omega)
   refine aH (aGp u K3 i) rfl (by rintro _ ⟨_,rfl,_⟩;rfl) ?_
   rintro _ ⟨l,rfl,hll⟩
   simp -implicitDefEqProofs(disch:=first|decide|omega)only[↓aA,aC,aB,simprocAttr,bB]
   unfold aDQ
   simp -implicitDefEqProofs(disch:=first|decide|omega)only[↓aA,aC,aB,simprocAttr]
   refine aF (σ:=Nat×Sta) (fun p=>⟨[(1,.ref 0 0 0),(2,.ref 1 0 0),(4,.ref 2 0 0),(5,.int .i64 (i:Int)),(6,.sl false 1 (l.map I64)),(7,.int .i64 (p.1:Int))],[.box (stC p.2),.box [.aD,.aD,.aD,.aD,.aD,.aD,.aD,.int .i64 0,.int .i64 0,.int .i64 0],.box (stC s)]⟩) (fun p=>p.1<=l.length/\II (B+201*i+201) p.2) (fun p=>l.length-p.1) (0,u) (.inl rfl) ⟨by simp,hu⟩ ?_
   rintro ⟨j,v⟩ ⟨hj,hv⟩
   simp only at hj hv
   unfold aDO
   by_cases hjl:j<l.length
   · have hg:l.getD j default=l[j]:=by simp [hjl]
     have K4:=okS hv (by omega)
     have hnow:=hv.now
     simp -implicitDefEqProofs(disch:=first|decide|omega)only[↓aA,aC,aB,simprocAttr,bB,hg,I64]
     repeat refine And.intro (by omega) ?_
     refine aE (aI.of (aM:=false) (xA v (by have:=K4.st.k;omega) l[j] (max v.now 1)) (.refl rfl) rfl (by simp)) ?_
     simp -implicitDefEqProofs(disch:=first|decide|omega)only[↓aA,aC,aB,simprocAttr,bB]
     refine ⟨(j+1,x6 v l[j] (max v.now 1)),?_,⟨by simp only;omega,x5 hv _ _ ⟨by omega,by omega⟩⟩,by simp only;omega⟩
     (refine Sub.of0 [some 0,some 1,some 2] rfl ?_ rfl ?_<;>repeat' first|trivial|rfl|exact .inl rfl|exact .inr ⟨rfl,_,_,rfl⟩|(simp;done)|(simp;omega)|refine And.intro ?_ ?_)
   · simp -implicitDefEqProofs(disch:=first|decide|omega)only[↓aA,aC,aB,simprocAttr,bB]
     refine ⟨(i+1,v),?_,⟨by simp only;omega,hv.mono (by simp only;omega)⟩,by simp only;omega⟩
     (refine Sub.of0 [some 0,some 1,some 2] rfl ?_ rfl ?_<;>repeat' first|trivial|rfl|exact .inl rfl|exact .inr ⟨rfl,_,_,rfl⟩|(simp;done)|(simp;omega)|refine And.intro ?_ ?_)
 · simp -implicitDefEqProofs(disch:=first|decide|omega)only[↓aA,aC,aB,simprocAttr,bB]
   refine a7 (xB s t (by have:=K.st.k;omega) (by have:=K2.st.k;omega)) rfl (by rintro _ ⟨_,rfl⟩;rfl) ?_
   rintro _ ⟨l,rfl⟩
   simp -implicitDefEqProofs(disch:=first|decide|omega)only[↓aA,aC,aB,simprocAttr,bB]
   exact ⟨t,l,rfl,ht.mono (by omega)⟩
end Go.Proofs.YtakemdamegfcfaaGreat
