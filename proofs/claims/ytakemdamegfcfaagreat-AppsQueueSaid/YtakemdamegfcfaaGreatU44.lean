/- A part of a proof: what functions of the program compute. No condition. -/
import Derived.Test.YtakemdamegfcfaaGreatU37
import Derived.Test.YtakemdamegfcfaaGreatU41
import Derived.Test.YtakemdamegfcfaaGreatU43
import Derived.Test.YtakemdamegfcfaaGreatT26
import Derived.Test.YtakemdamegfcfaaGreatProg
import Derived.KernelRfl
import Derived.Test.YtakemdamegfcfaaGreatT6
import Derived.Test.YtakemdamegfcfaaGreatT10
import Derived.Test.YtakemdamegfcfaaGreatT34
import Derived.Test.YtakemdamegfcfaaGreatT35
set_option linter.unusedSimpArgs false
set_option linter.unusedVariables false
set_option maxHeartbeats 16000000
set_option maxRecDepth 100000
namespace Go.Proofs.YtakemdamegfcfaaGreat
open Go Go.Ab
theorem a6p (s:Sta) (hs:NOk s) (id:Int):aT Tryz.prog 39 [.agg (stC s),.int .i64 id] (dT APP gI (dP id s.apps)):=by
 have ha36:=hs.a
 have ca:=a5M s id (by omega)
 refine aT.wk3 (aO a6A (by simp) ?_)
 unfold a6C dT
 unfold stC at *
 refine Wh ?_
 refine aE (aI.of (aM:=false) (ca) (.refl rfl) rfl (by simp)) ?_
 rcases yU (idA id) s.apps with ⟨h1,h2⟩|⟨i,hi,h1,h2,h3,h4⟩
 · have hf:dP id s.apps=none:=h2
   rw [h1,hf]
   refine Wh ?_
   refine .inr ⟨_,_,rfl,rfl,.inr ⟨_,_,rfl,rfl,?_⟩,.inl (.inl rfl),trivial⟩
   simp [gI,bI,WkL,Wk1]
 · have hf:dP id s.apps=some s.apps[i]:=h3
   have hg:s.apps.getD i default=s.apps[i]:=by simp [hi]
   have hx:=hs.at_ _ (List.getElem_mem hi)
   have b1:=hx.asks;have b2:=hx.gl;have b3:=hx.kl;have b4:=hx.tl;have b5:=hx.ll
   unfold wX at b2 b3 b4 b5
   have c2:=a3G s.apps[i] (by omega) (by omega) (by omega) (by omega) (by omega)
   rw [h1,hf]
   simp -implicitDefEqProofs(disch:=first|decide|omega)only[↓aA,aC,aB,simprocAttr,x8,bB,a9,hg,List.append_nil]
   refine ⟨by omega,by omega,?_⟩
   refine aE (aI.of (aM:=false) (c2) (.refl rfl) rfl (by simp)) ?_
   simp -implicitDefEqProofs(disch:=first|decide|omega)only[↓aA,aC,aB,simprocAttr,x8,bB,a9,List.append_nil]
   exact .inl (.inl (.inl rfl))
def a6f (id:Int) (q:List UInt8):App:=⟨id,0,q,0,0,1,1,[],0,0,[],[],[],[]⟩
theorem wkQ (id:Int) (q:List UInt8):Wk3 (.agg [.int .i64 id,.int .i64 0,.str q,.int .i64 0,.int .i64 0,.int .i64 1,.int .i64 1,.aD,.int .i64 0,.int .i64 0,.aD,.aD,.aD,.aD]) (APP (a6f id q)):=by
 refine .inl (.inr ⟨_,_,rfl,rfl,?_⟩)
 simp [bI,a6f,WkL,Wk1]
def knS:Sta:={ s4 with apps:=[hY (a6f 4 nO) 0] }
theorem a6q:aT Tryz.prog 32 [] (.bool true):=by
 have k54:=aHS
 have k36:=a6o s4 aMq (by decide) .nil (fun q hq=>by rw [List.mem_singleton.1 hq];decide) (a6f 4 nO)
 have er:pJ s4 (a6f 4 nO)=(knS,0):=by
  unfold pJ
  rw [if_neg (by decide),if_neg (by decide),if_neg (by decide),if_pos (by decide)]
  rfl
 rw [er] at k36
 have nk:NOk knS:=⟨aSD,by decide,by decide,(fun a ha=>by rw [List.mem_singleton.1 ha];exact ⟨by decide,by decide,by decide,by decide,by decide,by decide⟩),by decide,by decide,by decide⟩
 have k39:=a6p knS nk 4
 have ef:dP 4 knS.apps=some (hY (a6f 4 nO) 0):=rfl
 rw [ef] at k39
 have k38:=a2m (hY (a6f 4 nO) 0)
 have m1:(hY (a6f 4 nO) 0).state=1:=rfl
 have m2:(hY (a6f 4 nO) 0).asks.length=1:=rfl
 have m3:live (hY (a6f 4 nO) 0)=true:=rfl
 rw [m3] at k38
 unfold dT at k39
 simp only [Option.getD_some,Option.isSome_some] at k39
 unfold sH at k36
 generalize hY (a6f 4 nO) 0=m at *
 unfold aT
 refine aK a6K (by simp) ?_
 unfold a6G
 refine Wb ?_
 refine aE (aI.of (aM:=false) (k54) (.refl rfl) rfl (by simp)) ?_
 refine Wb ?_
 refine aE (aI.of (aM:=false) k36 (.cons (.refl rfl) (.cons (Vw.wk (wkQ 4 nO) rfl) .nil)) rfl (by simp)) ?_
 refine Wh ?_
 refine aE (aI.of (aM:=false) (k39) (.refl rfl) rfl (by simp)) ?_
 simp -implicitDefEqProofs(disch:=first|decide|omega)only[↓aA,aC,aB,simprocAttr,x8,bB,a9,m1,m2]
 refine aE (aI.of (aM:=false) (k38) (.refl rfl) rfl (by simp)) ?_
 simp -implicitDefEqProofs(disch:=first|decide|omega)only[↓aA,aC,aB,simprocAttr,x8,bB]
def R8:{c:CC // aJ Tryz.prog 8=c}:=⟨_,by conv=>lhs;reduce⟩
def S8:{c:CC // bA Tryz.prog 8 { fz:=[(false,11,[9])],fs:=false } R8.1 [([1,1,1,1,1,1,1,1,1,1,0,1,0,0,1,0,0,1,1,0],(.f [1,2,3,5,1004,6,0,11,2007,8,9,10,12,13]))]=c}:=⟨_,by conv=>lhs;reduce⟩
def bXv:CC:=(fun (c:CC) (_:(S8.1.aV [1,1,1,1,1,1,1,1,1,1,0,1,0,0,1,0,0,1,0,1,0,0])=c)=>c) _ (by conv=>lhs;reduce)
def bXz:CC:=(fun (c:CC->CC) (_:(fun a0=>(S8.1.aV [1,1,1,1,1,1,1,1,1,1,0,1,0,0,1,0,0,1,0,1]).aU [0,0] a0)=c)=>c) _ (by conv=>lhs;reduce) bXv
def bXu:CC:=(fun (c:CC->CC) (_:(fun a0=>(S8.1.aV [1,1,1,1,1,1,1,1,1,1,0,1,0,0]).aU [1,0,0,1,0,1] a0)=c)=>c) _ (by conv=>lhs;reduce) bXz
def bXy:CC:=(fun (c:CC->CC) (_:(fun a0=>(S8.1.aV [1,1,1,1,1,1,1,1,1,1,0,1]).aU [0,0] a0)=c)=>c) _ (by conv=>lhs;reduce) bXu
def bXt:CC:=(fun (c:CC) (_:(S8.1.aV [1,1,1,1,1,1,1,1,1,0,1,0,0])=c)=>c) _ (by conv=>lhs;reduce)
def bXx:CC:=(fun (c:CC->CC) (_:(fun a0=>(S8.1.aV [1,1,1,1,1,1,1,1,1,0,1]).aU [0,0] a0)=c)=>c) _ (by conv=>lhs;reduce) bXt
def bXs:CC:=(fun (c:CC) (_:(S8.1.aV [1,1,1,1,1,0,1,0,0])=c)=>c) _ (by conv=>lhs;reduce)
def bXw:CC:=(fun (c:CC->CC) (_:(fun a0=>(S8.1.aV [1,1,1,1,1,0,1]).aU [0,0] a0)=c)=>c) _ (by conv=>lhs;reduce) bXs
def cc8:CC:=(fun (c:CC->CC->CC->CC) (_:(fun a0 a1 a2=>(((S8.1).aU [1,1,1,1,1,0,1] a0).aU [1,1,1,1,1,1,1,1,1,0,1] a1).aU [1,1,1,1,1,1,1,1,1,1,0,1] a2)=c)=>c) _ (by conv=>lhs;reduce) bXw bXx bXy
theorem is8:aZ Tryz.prog 8 cc8 [4] 115:=aZ.of Tryz.f8 Tryz.func8 rfl
theorem b4B {B:Nat} {s:Sta} (h:II B s) (hB:B<=2^39) (a:App):aT Tryz.prog 36 [.agg (stC s),APP a] (sH (pJ s a)) :=
 a6o s (a2n (okS h hB)) (by have:=(okS h hB).st.a;omega) h.aS h.ck.nz a
theorem bIL (qs:List Queue) (r:List UInt8):((o6 qs).map Queue.path).contains r=iM qs r:=by
 rw [Bool.eq_iff_iff,List.contains_iff_mem,List.mem_map]
 constructor
 · rintro ⟨q,hq,rfl⟩
   exact (List.mem_filter.1 hq).2
 · intro h
   have h1:=h
   unfold iM at h1
   rw [Bool.and_eq_true] at h1
   obtain ⟨q,hq⟩:=Option.isSome_iff_exists.1 h1.1
   have h2:=List.mem_of_find?_eq_some hq
   have h3:q.path=r:=by simpa using List.find?_some hq
   exact ⟨q,List.mem_filter.2 ⟨h2,by rw [h3];exact h⟩,h3⟩
theorem b0N {B:Nat} {s:Sta} (h:II B s):dP 9000 s.apps=none:=List.find?_eq_none.2 fun x hx=>by
 have:=(h.aR x hx).id
 simp only [beq_iff_eq]
 omega
theorem bTw {B:Nat} {s:Sta} (h:II B s) (hl:¬ 16<=(s.apps.filter live).length) (r:List UInt8):pJ s (a6f 9000 r)=if iM s.qs r then (iJ (lU s) (hY (a6f 9000 r) s.now),0) else (s,19):=by
 unfold pJ
 have hn:dP (a6f 9000 r).id s.apps=none:=b0N h
 rw [if_neg (by unfold vX a6f;simp),hn,Option.isSome_none,if_neg (by simp),if_neg hl]
 rfl
def bBu (p:List UInt8) (qs:List Queue) (k:Nat):List (List UInt8):=p :: (qs.take k).map Queue.path
set_option maxHeartbeats 4000000 in
theorem b8s (x:Scr) (p:List UInt8):aW Tryz.prog 8 [.agg (jJ x),.str p] [] fun y _=>y= .bool true:=by
 refine aK is8 (by simp) ?_
 unfold cc8
 have kf:=aSv x
 have ks:=aGB x
 generalize hx:wM x=b at kf ks
 unfold jJ at kf ks ⊢
 refine Wb ?_
 refine aE (aI.of (aM:=false) (a6q) (.refl rfl) rfl (by simp)) ?_
 refine Wb ?_
 refine aE (aI.of (aM:=false) (kf) (.refl rfl) rfl (by simp)) ?_
 cases b
 · simp -implicitDefEqProofs(disch:=first|decide|omega)only[↓aA,aC,aB,simprocAttr,x8,bB]
 by_cases h60:60<p.length
 · simp -implicitDefEqProofs(disch:=first|decide|omega)only[↓aA,aC,aB,simprocAttr,x8,bB,h60]
 refine Vb h60 ?_
 refine aH (ks rfl) rfl (fun y hy=>zZ hy) ?_
 rintro _ ⟨s,rfl,h⟩
 have K:=okS h (by omega)
 refine Wb ?_
 unfold bXw
 refine Wa ?_
 refine aF (σ:=Nat) (fun k=>⟨[(1,.str p),(5,.ref 1 0 0),(6,.int .i64 (((s.apps.take k).filter live).length:Int)),(7,.int .i64 (k:Int))],[.box [.int .i64 x.shape,.sl true 1 (x.ns.map I64),.sl true 5 (x.acts.map ACT)],.box (stC s)]⟩) (fun k=>k<=s.apps.length) (fun k=>s.apps.length-k) 0 (.inl rfl) (by omega) ?_
 have ha16:=K.st.a
 rintro k hk
 unfold bXs
 have hfl:=dA (p:=live) (l:=s.apps) (k:=k)
 by_cases hki:k<s.apps.length
 · have hg:s.apps.getD k default=s.apps[k]:=by simp [hki]
   have e2:=cH (p:=live) hki
   have h38:=a2m s.apps[k]
   generalize hout:(s.apps.take k).filter live=out at e2 hfl ⊢
   cases hv:live s.apps[k]
   · rw [hv] at e2 h38
     rw [if_neg (by simp),List.append_nil] at e2
     simp -implicitDefEqProofs(disch:=first|decide|omega)only[↓aA,aC,aB,simprocAttr,x8,bB,a9,hg]
     repeat refine And.intro (by omega) ?_
     refine aE (aI.of (aM:=false) (h38) (.refl rfl) rfl (by simp)) ?_
     refine Wa ?_
     refine ⟨k+1,?_,by omega,by omega⟩
     simp only [e2]
     exact .inl rfl
   · rw [hv] at e2 h38
     rw [if_pos rfl] at e2
     simp -implicitDefEqProofs(disch:=first|decide|omega)only[↓aA,aC,aB,simprocAttr,x8,bB,a9,hg]
     repeat refine And.intro (by omega) ?_
     refine aE (aI.of (aM:=false) (h38) (.refl rfl) rfl (by simp)) ?_
     simp -implicitDefEqProofs(disch:=first|decide|omega)only[↓aA,aC,aB,simprocAttr,x8]
     repeat refine And.intro (by omega) ?_
     refine ⟨k+1,?_,by omega,by omega⟩
     simp only [e2,List.length_append,List.length_cons,List.length_nil]
     exact .inl rfl
 have hke:k=s.apps.length:=by omega
 subst hke
 rw [List.take_length]
 clear hfl
 by_cases h16:16<=(s.apps.filter live).length
 · simp -implicitDefEqProofs(disch:=first|decide|omega)only[↓aA,aC,aB,simprocAttr,x8,bB,h16]
 refine Vb h16 ?_
 have lv:=aFq s.labels s.qs K.q
 unfold bN at lv
 refine aE (aI.of (aM:=false) (lv) (.refl rfl) rfl (by simp)) ?_
 refine Wb ?_
 unfold bXx
 refine Wa ?_
 have hLV:∀ r:List UInt8,((o6 s.qs).map Queue.path).contains r=iM s.qs r:=fun r=>bIL s.qs r
 have hLl:((o6 s.qs).map Queue.path).length<=16:=by
  rw [List.length_map]
  exact Nat.le_trans (List.length_filter_le _ _) K.st.c.q3
 generalize (o6 s.qs).map Queue.path=LV at hLV hLl ⊢
 clear lv
 refine aF (σ:=Nat) (fun k=>⟨[(5,.ref 1 0 0),(8,.sl false 1 (LV.map AV.str)),(9,.own 2 1 0 (bBu p s.qs k).length),(10,.int .i64 (k:Int))],[.box [.int .i64 x.shape,.sl true 1 (x.ns.map I64),.sl true 5 (x.acts.map ACT)],.box (stC s),.arr 1 ((bBu p s.qs k).map AV.str)]⟩) (fun k=>k<=s.qs.length) (fun k=>s.qs.length-k) 0 (.inl rfl) (by omega) ?_
 have hq3:=K.st.c.q3
 rintro k hk
 unfold bXt
 by_cases hkq:k<s.qs.length
 · have hg:s.qs.getD k default=s.qs[k]:=by simp [hkq]
   have e1:bBu p s.qs (k+1)=bBu p s.qs k++[s.qs[k].path]:=by
    unfold bBu
    rw [List.take_succ_eq_append_getElem hkq,List.map_append]
    rfl
   have hL:(bBu p s.qs k).length<=17:=by simp [bBu];omega
   generalize bBu p s.qs k=R at e1 hL
   simp -implicitDefEqProofs(disch:=first|decide|omega)only[↓aA,aC,aB,simprocAttr,x8,bB,bW,hg]
   repeat refine And.intro (by omega) ?_
   refine ⟨k+1,?_,by omega,by omega⟩
   rw [e1]
   simp only [List.map_append,List.map_cons,List.map_nil,List.length_append,List.length_cons,List.length_nil]
   exact Sub.ofS [some 0,some 1,some 4]
 have hke:k=s.qs.length:=by omega
 subst hke
 have hR:(bBu p s.qs s.qs.length).length<=17:=by simp [bBu];omega
 generalize bBu p s.qs s.qs.length=R at hR
 refine Wb ?_
 unfold bXy
 refine Wa ?_
 refine aF (σ:=Nat) (fun j=>⟨[(5,.ref 1 0 0),(8,.sl false 1 (LV.map AV.str)),(9,.sl false 1 (R.map AV.str)),(11,.int .i64 (j:Int))],[.box [.int .i64 x.shape,.sl true 1 (x.ns.map I64),.sl true 5 (x.acts.map ACT)],.box (stC s)]⟩) (fun j=>j<=R.length) (fun j=>R.length-j) 0 ?_ (by omega) ?_
 · unfold stC
   exact Sub.ofS [some 0,some 1]
 rintro j hj
 unfold bXu
 by_cases hjr:j<R.length
 case neg =>
  simp -implicitDefEqProofs(disch:=first|decide|omega)only[↓aA,aC,aB,simprocAttr,x8,bB]
 have hg:R.getD j default=R[j]:=by simp [hjr]
 have sb:=bTw h h16 R[j]
 have cs:=b4B h (by omega) (a6f 9000 R[j])
 rw [sb] at cs
 have hlr:=hLV R[j]
 generalize R[j]=r at hg sb cs hlr
 refine Vb hg ?_
 unfold bXz
 refine Wa ?_
 refine aF (σ:=Nat) (fun i=>⟨[(5,.ref 1 0 0),(8,.sl false 1 (LV.map AV.str)),(9,.sl false 1 (R.map AV.str)),(11,.int .i64 (j:Int)),(12,.bool ((LV.take i).contains r)),(13,.int .i64 (i:Int))],[.box [.int .i64 x.shape,.sl true 1 (x.ns.map I64),.sl true 5 (x.acts.map ACT)],.box (stC s)]⟩) (fun i=>i<=LV.length) (fun i=>LV.length-i) 0 (.inl rfl) (by omega) ?_
 rintro i hi
 unfold bXv
 by_cases hil:i<LV.length
 · have hg2:LV.getD i default=LV[i]:=by simp [hil]
   have e2:(LV.take (i+1)).contains r=((LV.take i).contains r||LV[i]==r):=by
    rw [List.take_succ_eq_append_getElem hil,Bool.eq_iff_iff,Bool.or_eq_true,List.contains_iff_mem,List.contains_iff_mem,List.mem_append,List.mem_singleton,beq_iff_eq]
    exact ⟨fun h=>h.imp_right Eq.symm,fun h=>h.imp_right Eq.symm⟩
   generalize LV[i]=v at hg2 e2
   generalize (LV.take i).contains r=b0 at e2
   cases b0
   · simp -implicitDefEqProofs(disch:=first|decide|omega)only[↓aA,aC,aB,simprocAttr,x8,bB,hg,hg2]
     repeat refine And.intro (by omega) ?_
     refine ⟨i+1,?_,by omega,by omega⟩
     rw [e2]
     exact .inl rfl
   · simp -implicitDefEqProofs(disch:=first|decide|omega)only[↓aA,aC,aB,simprocAttr,x8,bB,hg,hg2]
     repeat refine And.intro (by omega) ?_
     refine ⟨i+1,?_,by omega,by omega⟩
     rw [e2]
     exact .inl rfl
 have hie:i=LV.length:=by omega
 subst hie
 rw [List.take_length,hlr]
 unfold sH at cs
 generalize iM s.qs r=b at cs
 cases b
 · rw [if_neg (by simp)] at cs
   simp -implicitDefEqProofs(disch:=first|decide|omega)only[↓aA,aC,aB,simprocAttr,x8,bB,hg]
   repeat refine And.intro (by omega) ?_
   refine aG7 cs (fun H=>.cons (.refl rfl) (.cons (Vw.wk (wkQ 9000 r) rfl) .nil)) rfl ?_
   refine Wb ?_
   refine ⟨j+1,?_,by omega,by omega⟩
   exact Sub.ofS [some 0,some 1]
 · rw [if_pos rfl] at cs
   simp -implicitDefEqProofs(disch:=first|decide|omega)only[↓aA,aC,aB,simprocAttr,x8,bB,hg]
   repeat refine And.intro (by omega) ?_
   refine aG7 cs (fun H=>.cons (.refl rfl) (.cons (Vw.wk (wkQ 9000 r) rfl) .nil)) rfl ?_
   generalize iJ (lU s) (hY (a6f 9000 r) s.now)=y
   refine Wb ?_
   refine ⟨j+1,?_,by omega,by omega⟩
   exact Sub.ofS [some 0,some 1]
section
open Go Go.Ab
variable {P:Program} {t e:TypeId}
theorem b8Y (ht:P.underlying t=some .string):Reads P t (fun s:List UInt8=>.str s) (fun s=>s.length<=maxLen):=by
 intro H enc W fuel cs x h
 obtain ⟨s,rfl,_,hs⟩:=DataW.trod_string ht h
 refine ⟨s.data.toList,by show s.data.toList.length<=maxLen;rw [Array.length_toList];exact hs,rfl,fun j y hj=>?_⟩
 cases j with
 | zero=>simp [AV.cells] at hj;subst hj;exact .str rfl
 | succ j=>simp [AV.cells] at hj
theorem b8X (ht:P.underlying t=some .string):Reads P t STR (fun l=>l.length<2^63) :=
 (b8Y ht).map (fun l=>l) fun l h=>⟨rfl,by unfold maxLen at h;omega⟩
end
theorem bPH (x:Scr) (p:List UInt8):aW Tryz.prog 8 [SCR x,.str p] [] fun y _=>y= .bool true:=aGb x (b8s x p) rfl fun y hy=>by subst hy;exact ⟨rfl,rfl⟩
end Go.Proofs.YtakemdamegfcfaaGreat
