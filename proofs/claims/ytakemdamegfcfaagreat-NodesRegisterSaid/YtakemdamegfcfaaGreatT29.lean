/- A part of a proof: what functions of the program compute. No condition. -/
import Derived.Test.YtakemdamegfcfaaGreatT28
import Derived.Test.YtakemdamegfcfaaGreatT27
set_option linter.unusedSimpArgs false
set_option linter.unusedVariables false
set_option maxRecDepth 20000
namespace Go.Proofs.YtakemdamegfcfaaGreat
open Go Go.Ab
theorem aYy {s:Sta} (h:ST s) (hq:QA s.labels s.qs) (k:Int):aW Tryz.prog 217 [.agg (stC s),.int .i64 k] [] fun y _=>∃ l:List (List UInt8),y= .sl false 1 (l.map .str)/\l.length<=70000/\∀ p∈l,p.length<=60:=by
 refine aK aVY (by simp) ?_
 unfold aOU
 simp -implicitDefEqProofs(disch:=first|decide|omega)only[↓aA,aC,aB,simprocAttr,bB]
 refine aH (vN s h hq k 3 (by decide) [114,111,111,116] (by decide) rfl) rfl (by rintro _ ⟨_,rfl,_⟩;rfl) ?_
 rintro _ ⟨l,rfl,hl,hx⟩
 simp -implicitDefEqProofs(disch:=first|decide|omega)only[↓aA,aC,aB,simprocAttr]
 exact ⟨l,rfl,by omega,hx⟩
theorem aGM:∀ {l:List AV},(∀ x∈l,aQt x)->∃ q:List Shr,l=q.map SHX/\∀ x∈q,x.path.length<=60
 | [],_=>⟨[],rfl,by simp⟩
 | x :: r,h=>by
   obtain ⟨q,rfl,hq⟩:=aGM fun y hy=>h y (List.mem_cons_of_mem _ hy)
   obtain ⟨p,m,rfl,hp⟩:=h x (by simp)
   exact ⟨⟨p,m⟩ :: q,rfl,by simpa using ⟨hp,hq⟩⟩
def aUm (y:AV):Prop:=∃ l:List Shr,y= .sl false 2 (l.map SHX)/\l.length<=70000/\∀ x∈l,x.path.length<=60
set_option maxHeartbeats 1000000 in
theorem aUQ {s:Sta} (h:ST s) (hq:QA s.labels s.qs) (k:Int):aW Tryz.prog 201 [.agg (stC s),.int .i64 k] [] fun y _=>aUm y:=by
 refine cX (aK aV6 (by simp) ?_)
 unfold aO6 aUm
 simp -implicitDefEqProofs(disch:=first|decide|omega)only[↓aA,aC,aB,simprocAttr,bB]
 refine a7 (aE8 h k) rfl (by rintro _ ⟨_,_,rfl⟩;rfl) ?_
 rintro _ ⟨u,v,rfl⟩
 simp -implicitDefEqProofs(disch:=first|decide|omega)only[↓aA,aC,aB,simprocAttr,bB]
 refine a7 (uU s h hq k 3 (by decide) [114,111,111,116] (by decide) rfl u) rfl (by rintro _ ⟨_,rfl,_⟩;rfl) ?_
 rintro _ ⟨X,rfl,hX,hx⟩
 obtain ⟨K,rfl,hK⟩:=aGM hx
 rw [List.length_map] at hX
 simp -implicitDefEqProofs(disch:=first|decide|omega)only[↓aA,aC,aB,simprocAttr,bB]
 unfold aCZ
 simp -implicitDefEqProofs(disch:=first|decide|omega)only[↓aA,aC,aB,simprocAttr]
 refine aF (σ:=Nat×List Shr) (fun q=>⟨[(5,.sl false 2 (q.2.map SHX)),(6,.sl false 2 (K.map SHX)),(7,.int .i64 (q.1:Int))],[]⟩) (fun q=>q.1<=K.length/\q.2.length=q.1/\∀ x∈q.2,x∈K) (fun q=>K.length-q.1) (0,[]) ?_ ⟨by simp,by simp,by simp⟩ ?_
 · (refine Sub.of0 [] rfl ?_ rfl ?_<;>repeat' first|trivial|rfl|exact .inl rfl|exact .inr ⟨rfl,_,_,rfl⟩|(simp;done)|(simp;omega)|refine And.intro ?_ ?_)
 rintro ⟨i,L⟩ ⟨hi,hL,hm⟩
 simp only at hi hL hm
 unfold aCX
 by_cases hik:i<K.length
 case neg =>
  simp -implicitDefEqProofs(disch:=first|decide|omega)only[↓aA,aC,aB,simprocAttr,bB]
  exact ⟨_,.refl _,L,rfl,by omega,fun x hx=>hK x (hm x hx)⟩
 have hg:K.getD i default=K[i]:=by simp [hik]
 simp -implicitDefEqProofs(disch:=first|decide|omega)only[↓aA,aC,aB,simprocAttr,bB]
 unfold aC0
 simp -implicitDefEqProofs(disch:=first|decide|omega)only[↓aA,aC,aB,simprocAttr]
 refine aF (σ:=Nat) (fun j=>⟨[(5,.sl false 2 (L.map SHX)),(6,.sl false 2 (K.map SHX)),(7,.int .i64 (i:Int)),(8,.int .i64 (j:Int))],[]⟩) (fun j=>j<=L.length) (fun j=>L.length-j) 0 (.inl rfl) (by omega) ?_
 intro j hj
 unfold aCY
 have fin:∀ j,j<=L.length->∀ z∈L.take j++[K[i]]++L.drop j,z∈K:=fun j hj z hz=>by
  simp only [List.mem_append,List.mem_singleton] at hz
  rcases hz with (hz|rfl)|hz
  · exact hm z (List.mem_of_mem_take hz)
  · exact List.getElem_mem hik
  · exact hm z (List.mem_of_mem_drop hz)
 by_cases hjl:j<L.length
 · have hgl:L.getD j default=L[j]:=by simp [hjl]
   cases hbl:Op.bytesLess L[j].path K[i].path
   · simp -implicitDefEqProofs(disch:=first|decide|omega)only[↓aA,aC,aB,simprocAttr,bB,v7,v8,hg,hgl,hbl]
     have eL:List.take (min j L.length-0+1+(L.length-j)) (List.take (min j L.length-0+1) (List.map SHX (List.take (min j L.length-0) (List.take j L))++[SHX K[i]])++List.map SHX (List.drop j L))=(L.take j++[K[i]]++L.drop j).map SHX:=by
      simp [List.take_of_length_le,Nat.min_eq_left hj]
      exact List.take_of_length_le (by simp;omega)
     rw [eL]
     repeat refine And.intro (by omega) ?_
     refine ⟨(i+1,L.take j++[K[i]]++L.drop j),?_,⟨by simp only;omega,by simp;omega,fin j hj⟩,by simp only;omega⟩
     (refine Sub.of0 [] rfl ?_ rfl ?_<;>repeat' first|trivial|rfl|exact .inl rfl|exact .inr ⟨rfl,_,_,rfl⟩|(simp;done)|(simp;omega)|refine And.intro ?_ ?_)
   · simp -implicitDefEqProofs(disch:=first|decide|omega)only[↓aA,aC,aB,simprocAttr,bB,v7,v8,hg,hgl,hbl]
     repeat refine And.intro (by omega) ?_
     exact ⟨j+1,.inl rfl,by omega,by omega⟩
 · have:j=L.length:=by omega
   subst this
   simp -implicitDefEqProofs(disch:=first|decide|omega)only[↓aA,aC,aB,simprocAttr,bB,v7,v8,hg]
   have eL:List.take (L.length-0+1) (List.take (L.length-0+1) (List.map SHX (List.take (L.length-0) L)++[SHX K[i]])++List.map SHX (List.drop L.length L))=(L.take L.length++[K[i]]++L.drop L.length).map SHX:=by
    simp [List.take_of_length_le]
   rw [eL]
   repeat refine And.intro (by omega) ?_
   refine ⟨(i+1,L.take L.length++[K[i]]++L.drop L.length),?_,⟨by simp only;omega,by simp;omega,fin _ (Nat.le_refl _)⟩,by simp only;omega⟩
   (refine Sub.of0 [] rfl ?_ rfl ?_<;>repeat' first|trivial|rfl|exact .inl rfl|exact .inr ⟨rfl,_,_,rfl⟩|(simp;done)|(simp;omega)|refine And.intro ?_ ?_)
theorem aYA {s:Sta} (h:ST s) (hq:QA s.labels s.qs) (k:Int) (p:List UInt8) (hp:p.length<=60):aW Tryz.prog 200 [.agg (stC s),.int .i64 k,.str p] [] fun y _=>qI y:=by
 refine aK aV7 (by simp) ?_
 unfold aO7
 simp -implicitDefEqProofs(disch:=first|decide|omega)only[↓aA,aC,aB,simprocAttr,bB]
 refine aH (aUQ h hq k) rfl (by rintro _ ⟨_,rfl,_⟩;rfl) ?_
 rintro _ ⟨K,rfl,hK,hx⟩
 simp -implicitDefEqProofs(disch:=first|decide|omega)only[↓aA,aC,aB,simprocAttr,bB]
 unfold aC2
 simp -implicitDefEqProofs(disch:=first|decide|omega)only[↓aA,aC,aB,simprocAttr]
 refine aF (σ:=Nat) (fun i=>⟨[(2,.str p),(7,.sl false 2 (K.map SHX)),(8,.int .i64 (i:Int))],[]⟩) (fun i=>i<=K.length) (fun i=>K.length-i) 0 ?_ (by omega) ?_
 · (refine Sub.of0 [] rfl ?_ rfl ?_<;>repeat' first|trivial|rfl|exact .inl rfl|exact .inr ⟨rfl,_,_,rfl⟩|(simp;done)|(simp;omega)|refine And.intro ?_ ?_)
 intro i hi
 unfold aC1
 by_cases hn:i<K.length
 · simp -implicitDefEqProofs(disch:=first|decide|omega)only[↓aA,aC,aB,simprocAttr,bB,v7,v8]
   repeat' first
    | exact ⟨_,rfl⟩
    | with_reducible apply And.intro
    | omega
    | (refine ⟨i+1,?_,by omega,by omega⟩;exact .inl rfl)
    | (refine a8 (fun hb=>?_) (fun hb=>?_)<;>simp -implicitDefEqProofs(disch:=first|decide|omega)only[↓aA,aC,aB,simprocAttr,hb,bB,v7,v8])
 · simp -implicitDefEqProofs(disch:=first|decide|omega)only[↓aA,aC,aB,simprocAttr,bB]
   exact ⟨_,rfl⟩
set_option maxHeartbeats 1000000 in
theorem aYz {s:Sta} (h:ST s) (hq:QA s.labels s.qs) (p:List UInt8) (hp:p.length<=60) (k:Int):aW Tryz.prog 202 [.agg (stC s),.str p,.int .i64 k] [] fun y _=>qI y:=by
 have k3:=h.a
 refine aK aV5 (by simp) ?_
 unfold aO5
 simp -implicitDefEqProofs(disch:=first|decide|omega)only[↓aA,aC,aB,simprocAttr,bB]
 refine a7 (pV h p hp k) rfl (by rintro _ ⟨_,_,rfl⟩;rfl) ?_
 rintro _ ⟨u,u2,rfl⟩
 simp -implicitDefEqProofs(disch:=first|decide|omega)only[↓aA,aC,aB,simprocAttr,bB]
 refine a7 (uI h hq p hp k) rfl (by rintro _ ⟨_,_,rfl⟩;rfl) ?_
 rintro _ ⟨v,v2,rfl⟩
 simp -implicitDefEqProofs(disch:=first|decide|omega)only[↓aA,aC,aB,simprocAttr,bB]
 unfold aCV
 simp -implicitDefEqProofs(disch:=first|decide|omega)only[↓aA,aC,aB,simprocAttr]
 refine aF (σ:=Nat) (fun i=>⟨[(1,.str p),(2,.int .i64 k),(3,.ref 0 0 0),(7,.int .i64 u),(8,.int .i64 v),(9,.int .i64 (i:Int))],[.box (stC s)]⟩) (fun i=>i<=s.apps.length) (fun i=>s.apps.length-i) 0 ?_ (by omega) ?_
 · (refine Sub.of0 [some 0] rfl ?_ rfl ?_<;>repeat' first|trivial|rfl|exact .inl rfl|exact .inr ⟨rfl,_,_,rfl⟩|(simp;done)|(simp;omega)|refine And.intro ?_ ?_)
 intro i hi
 unfold aCT
 by_cases hn:i<s.apps.length
 case neg =>
  simp -implicitDefEqProofs(disch:=first|decide|omega)only[↓aA,aC,aB,simprocAttr,bB]
  exact ⟨_,rfl⟩
 have hg:s.apps.getD i default=s.apps[i]:=by simp [hn]
 have haq:=(h.ar _ (List.getElem_mem hn)).asks
 generalize s.apps[i]=a at hg haq
 simp -implicitDefEqProofs(disch:=first|decide|omega)only[↓aA,aC,aB,simprocAttr,bB,a9,hg]
 unfold aCW
 simp -implicitDefEqProofs(disch:=first|decide|omega)only[↓aA,aC,aB,simprocAttr]
 repeat refine And.intro (by omega) ?_
 refine aF (σ:=Nat) (fun j=>⟨[(1,.str p),(2,.int .i64 k),(3,.ref 0 0 0),(7,.int .i64 u),(8,.int .i64 v),(9,.int .i64 (i:Int)),(10,.ref 1 0 0),(11,.int .i64 (j:Int))],[.box (stC s),.box (bI a)]⟩) (fun j=>j<=a.asks.length) (fun j=>a.asks.length-j) 0 ?_ (by omega) ?_
 · first|exact .inl rfl|(refine Sub.of0 [some 0,some 1] rfl ?_ rfl ?_<;>repeat' first|trivial|rfl|exact .inl rfl|exact .inr ⟨rfl,_,_,rfl⟩|(simp;done)|(simp;omega)|refine And.intro ?_ ?_)
 intro j hj
 unfold aCU
 by_cases hm:j<a.asks.length
 all_goals
  simp -implicitDefEqProofs(disch:=first|decide|omega)only[↓aA,aC,aB,simprocAttr,bB,a9,bF]
  repeat' first
   | exact ⟨_,rfl⟩
   | with_reducible apply And.intro
   | omega
   | (refine aE (aI.of (aM:=false) (fX a) (.refl rfl) rfl (by simp)) ?_;simp -implicitDefEqProofs(disch:=first|decide|omega)only[↓aA,aC,aB,simprocAttr,bB,a9,bF])
   | (refine aH (aUK h p hp k) rfl (by rintro _ ⟨_,_,rfl⟩;rfl) ?_;rintro _ ⟨w1,w2,rfl⟩;simp -implicitDefEqProofs(disch:=first|decide|omega)only[↓aA,aC,aB,simprocAttr,bB,a9,bF])
   | (refine ⟨j+1,?_,by omega,by omega⟩;(refine Sub.of0 [some 0,some 1] rfl ?_ rfl ?_<;>repeat' first|trivial|rfl|exact .inl rfl|exact .inr ⟨rfl,_,_,rfl⟩|(simp;done)|(simp;omega)|refine And.intro ?_ ?_))
   | (refine ⟨i+1,?_,by omega,by omega⟩;(refine Sub.of0 [some 0] rfl ?_ rfl ?_<;>repeat' first|trivial|rfl|exact .inl rfl|exact .inr ⟨rfl,_,_,rfl⟩|(simp;done)|(simp;omega)|refine And.intro ?_ ?_))
   | (refine bC (fun hb=>?_) (fun hb=>?_)<;>simp -implicitDefEqProofs(disch:=first|decide|omega)only[↓aA,aC,aB,simprocAttr,hb,bB,a9,bF])
   | (refine a8 (fun hb=>?_) (fun hb=>?_)<;>simp -implicitDefEqProofs(disch:=first|decide|omega)only[↓aA,aC,aB,simprocAttr,hb,bB,a9,bF])
structure uF (s0 s:Sta):Prop where
 n:s.nodes=s0.nodes
 c:s.conts=s0.conts
 l:s.slots=s0.slots
 q:s.sq=s0.sq
 li:∀ id,aEM s0 id->aEM s id
theorem uF.refl (s:Sta):uF s s:=⟨rfl,rfl,rfl,rfl,fun _ h=>h⟩
theorem uF.trans {a b c:Sta} (h:uF a b) (k:uF b c):uF a c:=⟨k.n.trans h.n,k.c.trans h.c,k.l.trans h.l,k.q.trans h.q,fun i hi=>k.li i (h.li i hi)⟩
theorem aFu {B:Nat} {s s':Sta} (h:II B s) (hs:zP s s'):uF s s':=by
 rcases hs with rfl|⟨a,ha,b,hid,hst,rfl⟩
 · exact .refl _
 · refine ⟨rfl,rfl,rfl,rfl,fun i hi=>?_⟩
   obtain ⟨c,hc,rfl,hl⟩:=hi
   by_cases he:c.id=b.id
   · have hca:c=a:=gL h.aS hc ha (by omega)
     subst hca
     exact ⟨b,mW,he.symm,by unfold live at hl ⊢;rw [hst];exact hl⟩
   · exact ⟨c,nY hc he,rfl,hl⟩
theorem aKc {B:Nat} {s:Sta} {y:AV} (h:aNL B s y):y.low=true:=by
 obtain ⟨s',k,c,rfl,_⟩:=h
 rfl
def aGW (B:Nat) (s:Sta) (y:AV):Prop:=∃ s':Sta,∃ k:Int,∃ c:bD,y= .tup [.agg (stC s'),.int .i64 k,bY c]/\II (B+1) s'/\(k=0->II B s'/\uF s s')
set_option maxHeartbeats 4000000 in
theorem mT {B:Nat} (s:Sta) (h:II B s) (hB:B+1<=2^39) (n:Node) (hn:n∈s.nodes) (hu:n.up=true) (hc:s.conts.length<200) (hq:s.sq+1<2^20) (hs:∀ y∈s.slots,y.node≠n.id) (first:Bool) :
 aW Tryz.prog 195 [.agg (stC s),bO n,.bool first] [] fun y _=>aGW B s y:=by
 have K:=okS h (by omega)
 refine aO aRR (by simp) ?_
 unfold aPc
 simp -implicitDefEqProofs(disch:=first|decide|omega)only[↓aA,aC,aB,simprocAttr,bB,aN]
 refine aH (aYy K.st K.w n.label) rfl (by rintro _ ⟨_,rfl,_⟩;rfl) ?_
 rintro _ ⟨lv,rfl,hlv1,hlv2⟩
 simp -implicitDefEqProofs(disch:=first|decide|omega)only[↓aA,aC,aB,simprocAttr]
 unfold aC8
 simp -implicitDefEqProofs(disch:=first|decide|omega)only[↓aA,aC,aB,simprocAttr]
 refine aF (σ:=Nat×Sta) (fun p=>⟨[(2,.bool first),(3,.ref 0 0 0),(4,.ref 1 0 0),(6,.ref 2 0 0),(8,.ref 3 0 0),(9,.sl false 1 (lv.map .str)),(10,.int .i64 (p.1:Int))],[.box (stC p.2),.box (cB n),.box [.aD,.aD,.aD,.aD,.aD,.aD,.aD,.int .i64 0,.int .i64 0,.int .i64 0],.box [.int .i64 0,.int .i64 0,.int .i64 0,.int .i64 0,.int .i64 0,.int .i64 0,.int .i64 0,.bool false,.int .i64 0]]⟩) (fun p=>p.1<=lv.length/\II B p.2/\uF s p.2) (fun p=>lv.length-p.1) (0,s) (.inl rfl) ⟨by simp,h,.refl _⟩ ?_
 rintro ⟨i,t⟩ ⟨hi,ht,hk⟩
 simp only at hi ht hk
 unfold aC5
 by_cases hil:i<lv.length
 · have hg:lv.getD i default=lv[i]:=by simp [hil]
   have K2:=okS ht (by omega)
   have hta:=K2.st.a
   simp -implicitDefEqProofs(disch:=first|decide|omega)only[↓aA,aC,aB,simprocAttr,bB,aN,hg]
   repeat refine And.intro (by omega) ?_
   refine aH (aGl t (by have:=K2.st.a;omega) lv[i]) rfl (by rintro _ ⟨_,rfl,_⟩;rfl) ?_
   rintro _ ⟨ids,rfl,hids1,hids2⟩
   simp -implicitDefEqProofs(disch:=first|decide|omega)only[↓aA,aC,aB,simprocAttr]
   unfold aC9
   simp -implicitDefEqProofs(disch:=first|decide|omega)only[↓aA,aC,aB,simprocAttr]
   refine aF (σ:=Nat×Sta) (fun p=>⟨[(2,.bool first),(3,.ref 0 0 0),(4,.ref 1 0 0),(6,.ref 2 0 0),(8,.ref 3 0 0),(9,.sl false 1 (lv.map .str)),(10,.int .i64 (i:Int)),(11,.sl false 1 (ids.map I64)),(12,.int .i64 (p.1:Int))],[.box (stC p.2),.box (cB n),.box [.aD,.aD,.aD,.aD,.aD,.aD,.aD,.int .i64 0,.int .i64 0,.int .i64 0],.box [.int .i64 0,.int .i64 0,.int .i64 0,.int .i64 0,.int .i64 0,.int .i64 0,.int .i64 0,.bool false,.int .i64 0]]⟩) (fun p=>p.1<=ids.length/\II B p.2/\uF t p.2) (fun p=>ids.length-p.1) (0,t) (.inl rfl) ⟨by simp,ht,.refl _⟩ ?_
   rintro ⟨j,u⟩ ⟨hj,hu2,hk2⟩
   simp only at hj hu2 hk2
   have hKi:=(hlv2 lv[i] (List.getElem_mem hil))
   unfold aC6
   by_cases hjl:j<ids.length
   · have hgj:ids.getD j default=ids[j]:=by simp [hjl]
     have K3:=okS hu2 (by omega)
     obtain ⟨a,haa,haid,hal⟩:=hk2.li _ (hids2 ids[j] (List.getElem_mem hjl))
     have hfa:dP ids[j] u.apps=some a:=by rw [<- haid];exact tI hu2.aS haa
     have haR:=hu2.aR a haa
     have c40:=gV u (by have:=K3.sz.a;omega) ids[j]
     unfold dT at c40
     rw [hfa,Option.getD_some,Option.isSome_some] at c40
     simp -implicitDefEqProofs(disch:=first|decide|omega)only[↓aA,aC,aB,simprocAttr,bB,aN,hg,hgj,I64]
     repeat refine And.intro (by omega) ?_
     refine bP (c40) rfl rfl ?_
     simp -implicitDefEqProofs(disch:=first|decide|omega)only[↓aA,aC,aB,simprocAttr,bB,aN,a9,hg]
     repeat refine And.intro (by omega) ?_
     refine aH (aUM K3.st K3.w lv[i] hKi n.label a.user) rfl (by rintro _ ⟨_,rfl⟩;rfl) ?_
     rintro _ ⟨more,rfl⟩
     cases more
     · simp -implicitDefEqProofs(disch:=first|decide|omega)only[↓aA,aC,aB,simprocAttr,bB,aN,a9]
       refine ⟨(j+1,u),?_,⟨by simp only;omega,hu2,hk2⟩,by simp only;omega⟩
       (refine Sub.of0 [some 0,some 1,some 2,some 3] rfl ?_ rfl ?_<;>repeat' first|trivial|rfl|exact .inl rfl|exact .inr ⟨rfl,_,_,rfl⟩|(simp;done)|(simp;omega)|refine And.intro ?_ ?_)
     simp -implicitDefEqProofs(disch:=first|decide|omega)only[↓aA,aC,aB,simprocAttr,bB,aN,a9]
     unfold aDa
     simp -implicitDefEqProofs(disch:=first|decide|omega)only[↓aA,aC,aB,simprocAttr]
     refine aF (σ:=Nat×Sta) (fun p=>⟨[(2,.bool first),(3,.ref 0 0 0),(4,.ref 1 0 0),(6,.ref 2 0 0),(8,.ref 3 0 0),(9,.sl false 1 (lv.map .str)),(10,.int .i64 (i:Int)),(11,.sl false 1 (ids.map I64)),(12,.int .i64 (j:Int)),(13,.ref 4 0 0),(15,.int .i64 (p.1:Int))],[.box (stC p.2),.box (cB n),.box [.aD,.aD,.aD,.aD,.aD,.aD,.aD,.int .i64 0,.int .i64 0,.int .i64 0],.box [.int .i64 0,.int .i64 0,.int .i64 0,.int .i64 0,.int .i64 0,.int .i64 0,.int .i64 0,.bool false,.int .i64 0],.box (bI a)]⟩) (fun p=>p.1<=a.asks.length/\II B p.2/\uF t p.2) (fun p=>a.asks.length-p.1) (0,u) (.inl rfl) ⟨by simp,hu2,hk2⟩ ?_
     rintro ⟨k,v⟩ ⟨hkk,hv,hk3⟩
     simp only at hkk hv hk3
     unfold aC7
     by_cases hkl:k<a.asks.length
     · have hgk:a.asks.getD k default=a.asks[k]:=by simp [hkl]
       have hax:=haR.ask _ (List.getElem_mem hkl)
       have hasl:=haR.asks
       have K4:=okS hv (by omega)
       obtain ⟨b,hba,hbid,hbl⟩:=hk3.li _ (hids2 ids[j] (List.getElem_mem hjl))
       have hfb:dP ids[j] v.apps=some b:=by rw [<- hbid];exact tI hv.aS hba
       have c40:=gV v (by have:=K4.sz.a;omega) ids[j]
       unfold dT at c40
       rw [hfb,Option.getD_some,Option.isSome_some] at c40
       have hk4:=hk.trans hk3
       have c219:=aKD v hv hB n (by rw [hk4.n];exact hn) hu b hba hbl a.asks[k] hax (by rw [hk4.c];exact hc) (by rw [hk4.q];exact hq) (by rw [hk4.l];exact hs) first
       simp -implicitDefEqProofs(disch:=first|decide|omega)only[↓aA,aC,aB,simprocAttr,bB,aN,a9,hgj,I64]
       repeat refine And.intro (by omega) ?_
       refine bP (c40) rfl rfl ?_
       simp -implicitDefEqProofs(disch:=first|decide|omega)only[↓aA,aC,aB,simprocAttr,bB,aN,a9,bF,hgk]
       repeat' (with_reducible apply And.intro)
       all_goals try omega
       all_goals
        refine a7 c219 rfl (fun y hy=>aKc hy) ?_
        rintro _ ⟨s',kd,c,rfl,hi',h0⟩
        by_cases h0k:kd=0
        · have h01:=h0 h0k
          simp -implicitDefEqProofs(disch:=first|decide|omega)only[↓aA,aC,aB,simprocAttr,bB,aY,h0k]
          repeat' (with_reducible apply And.intro)
          all_goals
           refine ⟨(k+1,s'),?_,⟨by simp only;omega,h01.1,hk3.trans (aFu hv h01.2)⟩,by simp only;omega⟩
           (refine Sub.of0 [some 0,some 1,some 2,some 3,some 4] rfl ?_ rfl ?_<;>repeat' first|trivial|rfl|exact .inl rfl|exact .inr ⟨rfl,_,_,rfl⟩|(simp;done)|(simp;omega)|refine And.intro ?_ ?_)
        · simp -implicitDefEqProofs(disch:=first|decide|omega)only[↓aA,aC,aB,simprocAttr,bB,aY,h0k]
          repeat' (with_reducible apply And.intro)
          all_goals exact ⟨s',kd,c,rfl,hi',fun e=>absurd e h0k⟩
     · have:k=a.asks.length:=by omega
       subst this
       simp -implicitDefEqProofs(disch:=first|decide|omega)only[↓aA,aC,aB,simprocAttr,bB,aN,a9]
       refine ⟨(j+1,v),?_,⟨by simp only;omega,hv,hk3⟩,by simp only;omega⟩
       (refine Sub.of0 [some 0,some 1,some 2,some 3] rfl ?_ rfl ?_<;>repeat' first|trivial|rfl|exact .inl rfl|exact .inr ⟨rfl,_,_,rfl⟩|(simp;done)|(simp;omega)|refine And.intro ?_ ?_)
   · have:j=ids.length:=by omega
     subst this
     simp -implicitDefEqProofs(disch:=first|decide|omega)only[↓aA,aC,aB,simprocAttr,bB,aN]
     refine ⟨(i+1,u),?_,⟨by simp only;omega,hu2,hk.trans hk2⟩,by simp only;omega⟩
     (refine Sub.of0 [some 0,some 1,some 2,some 3] rfl ?_ rfl ?_<;>repeat' first|trivial|rfl|exact .inl rfl|exact .inr ⟨rfl,_,_,rfl⟩|(simp;done)|(simp;omega)|refine And.intro ?_ ?_)
 · have:i=lv.length:=by omega
   subst this
   simp -implicitDefEqProofs(disch:=first|decide|omega)only[↓aA,aC,aB,simprocAttr,bB,aN]
   exact ⟨t,0,cI,rfl,ht.mono (by omega),fun _=>⟨ht,hk⟩⟩
def aQ6 (B:Nat) (y:AV):Prop:=∃ s':Sta,∃ k:Int,∃ c:bD,y= .tup [.agg (stC s'),.int .i64 k,bY c]/\II (B+1) s'
theorem lF {B:Nat} {s:Sta} {y:AV} (h:aGW B s y):y.low=true:=by
 obtain ⟨s',k,c,rfl,_⟩:=h
 rfl
theorem aFt {B:Nat} {s:Sta} {n:Node} {y:AV} (h:s8 B s n y):y.low=true:=by
 obtain ⟨s',k,c,d,rfl,_⟩:=h
 rfl
theorem aHx {B:Nat} {y:AV} (h:aQ6 B y):y.low=true:=by
 obtain ⟨s',k,c,rfl,_⟩:=h
 rfl
set_option maxHeartbeats 4000000 in
theorem aKC {B:Nat} (s:Sta) (h:II B s) (hB:B+1<=2^39) (id:Int):aW Tryz.prog 177 [.agg (stC s),.int .i64 id] [] fun y _=>aQ6 B y:=by
 have K:=okS h (by omega)
 have d0:aQ6 B (.tup [.agg (stC s),.int .i64 0,bY cI]):=⟨s,0,cI,rfl,h.mono (by omega)⟩
 refine aO aRX (by simp) ?_
 unfold aPo
 have c24:=kV s (by have:=K.st.n;omega) id
 unfold dT at c24
 simp -implicitDefEqProofs(disch:=first|decide|omega)only[↓aA,aC,aB,simprocAttr,bB,aN]
 refine aE (aI.of (aM:=false) (c24) (.refl rfl) rfl (by simp)) ?_
 cases hf:eH id s.nodes with
 | none =>
   simp -implicitDefEqProofs(disch:=first|decide|omega)only[↓aA,aC,aB,simprocAttr,bB,aN,Option.isSome_none,Option.getD_none]
   exact d0
 | some n =>
   have hn:=(gG hf).1
   have hid:=(gG hf).2
   cases hu:n.up
   · simp -implicitDefEqProofs(disch:=first|decide|omega)only[↓aA,aC,aB,simprocAttr,bB,aN,Option.isSome_some,Option.getD_some,hu]
     exact d0
   by_cases hc:s.conts.length<200
   case neg =>
    simp -implicitDefEqProofs(disch:=first|decide|omega)only[↓aA,aC,aB,simprocAttr,bB,aN,Option.isSome_some,Option.getD_some,hu]
    exact d0
   by_cases hq:s.sq+1<2^20
   case neg =>
    simp -implicitDefEqProofs(disch:=first|decide|omega)only[↓aA,aC,aB,simprocAttr,bB,aN,Option.isSome_some,Option.getD_some,hu]
    exact d0
   simp -implicitDefEqProofs(disch:=first|decide|omega)only[↓aA,aC,aB,simprocAttr,bB,aN,Option.isSome_some,Option.getD_some,hu]
   have c193:=aKa s (by have:=K.sz.l;omega) id
   unfold dT at c193
   refine aE (aI.of (aM:=false) (c193) (.refl rfl) rfl (by simp)) ?_
   cases hsl:aGJ id s.slots with
   | none =>
     have hs:∀ y∈s.slots,y.node≠n.id:=fun y hy e=>by
      have:=List.find?_eq_none.1 hsl y hy
      simp at this
      omega
     simp -implicitDefEqProofs(disch:=first|decide|omega)only[↓aA,aC,aB,simprocAttr,bB,aN,cU,Option.isSome_none,Option.getD_none]
     refine aH (mT s h hB n hn hu hc hq hs true) rfl (fun y hy=>lF hy) ?_
     rintro _ ⟨s1,k1,c1,rfl,hi1,h01⟩
     by_cases hk1:k1=0
     · have h1:=h01 hk1
       simp -implicitDefEqProofs(disch:=first|decide|omega)only[↓aA,aC,aB,simprocAttr,bB,aY,aN,hk1]
       refine aH (mT s1 h1.1 hB n (by rw [h1.2.n];exact hn) hu (by rw [h1.2.c];exact hc) (by rw [h1.2.q];exact hq) (by rw [h1.2.l];exact hs) false) rfl (fun y hy=>lF hy) ?_
       rintro _ ⟨s2,k2,c2,rfl,hi2,_⟩
       simp -implicitDefEqProofs(disch:=first|decide|omega)only[↓aA,aC,aB,simprocAttr,bB,aY]
       exact ⟨s2,k2,c2,rfl,hi2⟩
     · simp -implicitDefEqProofs(disch:=first|decide|omega)only[↓aA,aC,aB,simprocAttr,bB,aY,aN,hk1]
       repeat' (with_reducible apply And.intro)
       all_goals exact ⟨s1,k1,c1,rfl,hi1⟩
   | some x =>
     simp -implicitDefEqProofs(disch:=first|decide|omega)only[↓aA,aC,aB,simprocAttr,bB,aN,cU,Option.isSome_some,Option.getD_some]
     refine aH (aGj s h hB n hn hu x hc hq) rfl (fun y hy=>aFt hy) ?_
     rintro _ ⟨s0,k0,c0,d,rfl,hi0,h00⟩
     cases d
     · have e0:=h00 rfl
       subst e0
       have hs:∀ y∈(bV s n.id).slots,y.node≠n.id:=fun y hy e=>by
        have:=(List.mem_filter.1 hy).2
        simp at this
        exact this e
       simp -implicitDefEqProofs(disch:=first|decide|omega)only[↓aA,aC,aB,simprocAttr,bB,aY,aN]
       refine aH (mT (bV s n.id) (jC h _) hB n hn hu hc hq hs true) rfl (fun y hy=>lF hy) ?_
       rintro _ ⟨s1,k1,c1,rfl,hi1,h01⟩
       by_cases hk1:k1=0
       · have h1:=h01 hk1
         simp -implicitDefEqProofs(disch:=first|decide|omega)only[↓aA,aC,aB,simprocAttr,bB,aY,aN,hk1]
         refine aH (mT s1 h1.1 hB n (by rw [h1.2.n];exact hn) hu (by rw [h1.2.c];exact hc) (by rw [h1.2.q];exact hq) (by rw [h1.2.l];exact hs) false) rfl (fun y hy=>lF hy) ?_
         rintro _ ⟨s2,k2,c2,rfl,hi2,_⟩
         simp -implicitDefEqProofs(disch:=first|decide|omega)only[↓aA,aC,aB,simprocAttr,bB,aY]
         exact ⟨s2,k2,c2,rfl,hi2⟩
       · simp -implicitDefEqProofs(disch:=first|decide|omega)only[↓aA,aC,aB,simprocAttr,bB,aY,aN,hk1]
         repeat' (with_reducible apply And.intro)
         all_goals exact ⟨s1,k1,c1,rfl,hi1⟩
     · simp -implicitDefEqProofs(disch:=first|decide|omega)only[↓aA,aC,aB,simprocAttr,bB,aY,aN]
       repeat' (with_reducible apply And.intro)
       all_goals exact ⟨s0,k0,c0,rfl,hi0⟩
def aQa (B:Nat) (y:AV):Prop:=∃ s':Sta,∃ l:List bD,y= .tup [.agg (stC s'),.sl false 9 (l.map bY)]/\II (B+3) s'
theorem aF5 {B:Nat} {y:AV} (h:aQa B y):y.low=true:=by
 obtain ⟨s',l,rfl,_⟩:=h
 rfl
set_option maxHeartbeats 1000000 in
theorem aGk {B:Nat} (s:Sta) (h:II B s) (hB:B+3<=2^39) (id:Int):aW Tryz.prog 149 [.agg (stC s),.int .i64 id] [] fun y _=>aQa B y:=by
 refine aO aR2 (by simp) ?_
 unfold aPE
 simp -implicitDefEqProofs(disch:=first|decide|omega)only[↓aA,aC,aB,simprocAttr,bB]
 unfold aD2
 simp -implicitDefEqProofs(disch:=first|decide|omega)only[↓aA,aC,aB,simprocAttr]
 refine aF (σ:=Nat×Sta×List bD) (fun p=>⟨[(1,.int .i64 id),(2,.ref 0 0 0),(4,.ref 1 0 0),(6,.own 2 9 0 p.2.2.length),(7,.int .i64 (p.1:Int))],[.box (stC p.2.1),.box [.aD,.aD,.aD,.aD,.aD,.aD,.aD,.int .i64 0,.int .i64 0,.int .i64 0],.arr 9 (p.2.2.map bY)]⟩) (fun p=>p.1<=3/\II (B+p.1) p.2.1/\p.2.2.length<=p.1) (fun p=>3-p.1) (0,s,[]) ?_ ⟨by simp,h,by simp⟩ ?_
 · (refine Sub.of0 [some 0,some 1,none] rfl ?_ rfl ?_<;>repeat' first|trivial|rfl|exact .inl rfl|exact .inr ⟨rfl,_,_,rfl⟩|(simp;done)|(simp;omega)|refine And.intro ?_ ?_)
 rintro ⟨k,t,l⟩ ⟨hk,ht,hl⟩
 simp only at hk ht hl
 unfold aD1
 by_cases hk3:k<3
 · simp -implicitDefEqProofs(disch:=first|decide|omega)only[↓aA,aC,aB,simprocAttr,bB]
   refine aH (aKC t ht (by omega) id) rfl (fun y hy=>aHx hy) ?_
   rintro _ ⟨s1,k1,c1,rfl,hi1⟩
   by_cases h1:k1=1
   · simp -implicitDefEqProofs(disch:=first|decide|omega)only[↓aA,aC,aB,simprocAttr,bB,aY,h1]
     repeat refine And.intro (by omega) ?_
     refine ⟨(k+1,s1,l++[c1]),?_,⟨by simp only;omega,hi1,by simp;omega⟩,by simp only;omega⟩
     simp only [List.map_append,List.map_cons,List.map_nil,List.length_append,List.length_cons,List.length_nil]
     (refine Sub.of0 [some 0,some 1,some 6] rfl ?_ rfl ?_<;>repeat' first|trivial|rfl|exact .inl rfl|exact .inr ⟨rfl,_,_,rfl⟩|(simp;done)|(simp;omega)|refine And.intro ?_ ?_)
   · simp -implicitDefEqProofs(disch:=first|decide|omega)only[↓aA,aC,aB,simprocAttr,bB,aY,h1]
     exact ⟨s1,l,rfl,hi1.mono (by omega)⟩
 · simp -implicitDefEqProofs(disch:=first|decide|omega)only[↓aA,aC,aB,simprocAttr,bB]
   exact ⟨t,l,rfl,ht.mono (by omega)⟩
end Go.Proofs.YtakemdamegfcfaaGreat
