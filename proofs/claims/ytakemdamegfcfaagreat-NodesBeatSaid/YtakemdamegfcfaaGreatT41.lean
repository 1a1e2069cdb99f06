/- A part of a proof: what functions of the program compute. No condition. -/
import Derived.Test.YtakemdamegfcfaaGreatT38
import Derived.Test.YtakemdamegfcfaaGreatT40
import Derived.Test.YtakemdamegfcfaaGreatT11
set_option linter.unusedSimpArgs false
set_option linter.unusedVariables false
set_option maxRecDepth 20000
namespace Go.Proofs.YtakemdamegfcfaaGreat
open Go Go.Ab
theorem aIi (id:Int) (n:Node):aT Tryz.prog 126 [.int .i64 id,bO n] (.bool (n.id==id)):=by
 refine aK aWx (by simp) ?_
 unfold aPM
 simp -implicitDefEqProofs(disch:=first|decide|omega)only[↓aA,aC,aB,simprocAttr,aN]
def idP (p:Int) (a:Node):Bool:=a.id==p
set_option maxHeartbeats 1000000 in
theorem aIn (t:Bool) (p:Int) (l:List Node) (hl:l.length<2^63):aT Tryz.prog 125 [.sl t 8 (l.map bO),.fn (.func 126) [.int .i64 p] []] (.int .i64 (uK (idP p) l)):=by
 refine aK aWy (by simp) ?_
 unfold aPN
 simp -implicitDefEqProofs(disch:=first|decide|omega)only[↓aA,aC,aB,simprocAttr]
 unfold aEm
 simp -implicitDefEqProofs(disch:=first|decide|omega)only[↓aA,aC,aB,simprocAttr]
 refine aF (σ:=Nat) (fun i=>⟨[(0,.sl t 8 (l.map bO)),(1,.fn (.func 126) [.int .i64 p] []),(7,.int .i64 (l.length:Int)),(8,.int .i64 (i:Int))],[]⟩)
  (fun i=>i<=l.length/\∀ j,(h:j<i)->(h2:j<l.length)->idP p l[j]=false) (fun i=>l.length-i) 0 (.inl rfl) ⟨by omega,fun j h=>by omega⟩ ?_
 rintro i ⟨hii,hn⟩
 unfold aEl
 by_cases hil:i<l.length
 · have hg:l.getD i default=l[i]:=by simp [hil]
   simp -implicitDefEqProofs(disch:=first|decide|omega)only[↓aA,aC,aB,simprocAttr,aN]
   refine ⟨by omega,by omega,?_⟩
   refine aE (aI.of (aM:=false) (aIi p _) (.refl rfl) rfl (by simp)) ?_
   rw [hg]
   cases hp:idP p l[i]
   · have hp':(l[i].id==p)=false:=hp
     rw [hp']
     simp -implicitDefEqProofs(disch:=first|decide|omega)only[↓aA,aC,aB,simprocAttr]
     refine ⟨i+1,.inl rfl,⟨by omega,fun j h h2=>?_⟩,by omega⟩
     by_cases hj:j=i
     · subst hj;exact hp
     · exact hn j (by omega) h2
   · have hp':(l[i].id==p)=true:=hp
     rw [hp']
     simp -implicitDefEqProofs(disch:=first|decide|omega)only[↓aA,aC,aB,simprocAttr]
     rw [aSq hil (fun j hj=>hn j hj (by omega)) hp]
 · have:i=l.length:=by omega
   subst this
   simp -implicitDefEqProofs(disch:=first|decide|omega)only[↓aA,aC,aB,simprocAttr]
   rw [aSp fun j hj=>hn j hj hj]
theorem aRl (s:Sta) (hl:s.nodes.length<2^62) (id:Int):aT Tryz.prog 60 [.agg (stC s),.int .i64 id] (.int .i64 (uK (idP id) s.nodes)):=by
 unfold aT
 refine aK aVE (by simp) ?_
 unfold aSQ
 simp -implicitDefEqProofs(disch:=first|decide|omega)only[↓aA,aC,aB,simprocAttr,bB]
 refine nI (aIn false id s.nodes (by omega)) rfl rfl ?_
 rintro y G rfl
 simp -implicitDefEqProofs(disch:=first|decide|omega)only[↓aA,aC,aB,simprocAttr,AV.ren,AO.ren,up]
theorem xV (s:Sta) (hl:s.nodes.length<2^62) (id:Int):aT Tryz.prog 23 [.agg (stC s),.int .i64 id] (dT bO rW (eH id s.nodes)):=by
 have h1:=aRl s hl id
 unfold stC at h1
 unfold aT
 refine aO aVw (by simp) ?_
 unfold aXO dT eH
 simp -implicitDefEqProofs(disch:=first|decide|omega)only[↓aA,aC,aB,simprocAttr,bB]
 refine aE (aI.of (aM:=false) (h1) (.refl rfl) rfl (by simp)) ?_
 rcases yU (idP id) s.nodes with ⟨e1,e2⟩|⟨i,hi,e1,hp,e2,hn⟩
 · have e3:s.nodes.find? (fun a=>a.id==id)=none:=e2
   rw [e1,e3,Option.getD_none,Option.isSome_none]
   simp -implicitDefEqProofs(disch:=first|decide|omega)only[↓aA,aC,aB,simprocAttr,bB,aN]
   rfl
 · have e3:s.nodes.find? (fun a=>a.id==id)=some s.nodes[i]:=e2
   have hg:s.nodes.getD i default=s.nodes[i]:=by simp [hi]
   rw [e1,e3,Option.getD_some,Option.isSome_some]
   simp -implicitDefEqProofs(disch:=first|decide|omega)only[↓aA,aC,aB,simprocAttr,bB,aN,hg]
   repeat' first|omega|rfl|apply And.intro
theorem wK (a b:Int) (ha:0<=a/\a<=2^50) (hb:0<=b/\b<=2^50):aT Tryz.prog 130 [.agg [.int .i64 a,.int .i64 b]] (.bool true):=by
 unfold aT
 refine aK aWw (by simp) ?_
 unfold aPL
 simp -implicitDefEqProofs(disch:=first|decide|omega)only[↓aA,aC,aB,simprocAttr]
theorem aLA (a b:Int) (ha:0<=a/\a<=2^50) (hb:0<=b/\b<=2^50):aT Tryz.prog 131 [.agg [.int .i64 a,.int .i64 b]] (.tup [.agg [.int .i64 a,.int .i64 b],.int .i64 0]):=by
 unfold aT
 refine aO aR4 (by simp) ?_
 unfold aPK
 simp -implicitDefEqProofs(disch:=first|decide|omega)only[↓aA,aC,aB,simprocAttr,bB]
 refine aE (aI.of (aM:=false) (wK a b ha hb) (.refl rfl) rfl (by simp)) ?_
 simp -implicitDefEqProofs(disch:=first|decide|omega)only[↓aA,aC,aB,simprocAttr,bB]
theorem aYi (a b c d:Int) (h:0<=a/\0<=b/\0<=c/\0<=d/\a+c<=2^50/\b+d<=2^50):aT Tryz.prog 67 [.agg [.int .i64 a,.int .i64 b],.agg [.int .i64 c,.int .i64 d]] (.tup [.agg [.int .i64 (a+c),.int .i64 (b+d)],.int .i64 0]):=by
 unfold aT
 refine aO aVh (by simp) ?_
 unfold aXs
 simp -implicitDefEqProofs(disch:=first|decide|omega)only[↓aA,aC,aB,simprocAttr,bB]
 refine aE (aI.of (aM:=false) (wK a b (by omega) (by omega)) (.refl rfl) rfl (by simp)) ?_
 simp -implicitDefEqProofs(disch:=first|decide|omega)only[↓aA,aC,aB,simprocAttr,bB]
 refine aE (aI.of (aM:=false) (wK c d (by omega) (by omega)) (.refl rfl) rfl (by simp)) ?_
 simp -implicitDefEqProofs(disch:=first|decide|omega)only[↓aA,aC,aB,simprocAttr,bB]
 refine aE (aI.of (aM:=false) (aLA (a+c) (b+d) (by omega) (by omega)) (.refl rfl) rfl (by simp)) ?_
 simp -implicitDefEqProofs(disch:=first|decide|omega)only[↓aA,aC,aB,simprocAttr,bB]
theorem xS (s:Sta) (hl:s.conts.length<=2^18) (hc:∀ c∈s.conts,okV c.mem c.cores) (id:Int):aT Tryz.prog 20 [.agg (stC s),.int .i64 id] (.agg [.int .i64 (bR id s.conts).1,.int .i64 (bR id s.conts).2]):=by
 unfold aT
 refine aO aVy (by simp) ?_
 unfold aXQ
 simp -implicitDefEqProofs(disch:=first|decide|omega)only[↓aA,aC,aB,simprocAttr,stC,cA,bU]
 unfold aJS
 simp -implicitDefEqProofs(disch:=first|decide|omega)only[↓aA,aC,aB,simprocAttr]
 refine aF (σ:=Nat) (fun k=>⟨[(1,.int .i64 id),(4,.ref 0 0 0),(5,.ref 1 0 0),(9,.sl false 9 (s.conts.map bY)),(10,.int .i64 (s.conts.length:Int)),(11,.int .i64 (k:Int))],[.box [.int .i64 0,.int .i64 0],.box [.int .i64 (bR id (s.conts.take k)).1,.int .i64 (bR id (s.conts.take k)).2]]⟩) (fun k=>k<=s.conts.length) (fun k=>s.conts.length-k) 0 ?_ (by omega) ?_
 · show Sub _ _ ⟨[(1,.int .i64 id),(4,.ref 0 0 0),(5,.ref 1 0 0),(9,.sl false 9 (s.conts.map bY)),(10,.int .i64 (s.conts.length:Int)),(11,.int .i64 0)],[.box [.int .i64 0,.int .i64 0],.box [.int .i64 0,.int .i64 0]]⟩
   exact Sub.ofS [some 1,some 2]
 rintro k hk
 unfold aJR
 by_cases hki:k<s.conts.length
 · have hg:s.conts.getD k default=s.conts[k]:=by simp [hki]
   have hx:=hc _ (List.getElem_mem hki)
   have hr:=kM (id:=id) (l:=s.conts.take k) fun c h=>hc c (List.mem_of_mem_take h)
   rw [List.length_take] at hr
   have e:s.conts.take (k+1)=s.conts.take k++[s.conts[k]]:=by simp
   have hu:=pH (id:=id) (l:=s.conts.take k) (c:=s.conts[k])
   rw [<- e] at hu
   unfold okV at hx
   by_cases hp:s.conts[k].node=id
   · rw [if_pos hp] at hu
     simp -implicitDefEqProofs(disch:=first|decide|omega)only[↓aA,aC,aB,simprocAttr,bB,aY,hg,hp]
     repeat refine And.intro (by omega) ?_
     refine aE (aI.of (aM:=false) (aYi _ _ _ _ (by omega)) (.refl rfl) rfl (by simp)) ?_
     simp -implicitDefEqProofs(disch:=first|decide|omega)only[↓aA,aC,aB,simprocAttr,hu]
     repeat refine And.intro (by omega) ?_
     refine ⟨k+1,?_,by omega,by omega⟩
     rw [hu]
     exact Sub.ofS [some 0,some 1]
   · rw [if_neg hp] at hu
     simp -implicitDefEqProofs(disch:=first|decide|omega)only[↓aA,aC,aB,simprocAttr,bB,aY,hg,hp]
     repeat refine And.intro (by omega) ?_
     refine ⟨k+1,?_,by omega,by omega⟩
     rw [hu]
     exact Sub.ofS [some 0,some 1]
 · have:k=s.conts.length:=by omega
   subst this
   simp -implicitDefEqProofs(disch:=first|decide|omega)only[↓aA,aC,aB,simprocAttr,stC,List.take_length]
theorem xU (s:Sta) (hl:s.nodes.length<2^62) (hk:s.conts.length<=2^18) (hc:∀ c∈s.conts,okV c.mem c.cores) (hn:∀ n∈s.nodes,0<=n.mem/\n.mem<=2^30/\0<=n.cores/\n.cores<=2^30) (id:Int):aT Tryz.prog 21 [.agg (stC s),.int .i64 id] (.agg [.int .i64 (eY id s).1,.int .i64 (eY id s).2]):=by
 have h1:=xV s hl id
 have h2:=xS s hk hc id
 have hr:=kM (id:=id) hc
 unfold aT
 refine aO aVx (by simp) ?_
 unfold aXP
 unfold stC at h1 h2
 unfold dT at h1
 simp -implicitDefEqProofs(disch:=first|decide|omega)only[↓aA,aC,aB,simprocAttr,stC]
 refine aE (aI.of (aM:=false) (h1) (.refl rfl) rfl (by simp)) ?_
 unfold eY
 cases hf:eH id s.nodes with
 | none =>
   rw [Option.getD_none,Option.isSome_none]
   simp -implicitDefEqProofs(disch:=first|decide|omega)only[↓aA,aC,aB,simprocAttr,bB,aN]
 | some n =>
   have hx:=hn n (gG hf).1
   rw [Option.getD_some,Option.isSome_some]
   cases hu:n.up
   · simp -implicitDefEqProofs(disch:=first|decide|omega)only[↓aA,aC,aB,simprocAttr,bB,aN,hu]
   · simp -implicitDefEqProofs(disch:=first|decide|omega)only[↓aA,aC,aB,simprocAttr,bB,aN,hu]
     refine aE (aI.of (aM:=false) (h2) (.refl rfl) rfl (by simp)) ?_
     simp -implicitDefEqProofs(disch:=first|decide|omega)only[↓aA,aC,aB,simprocAttr,bB,aN,aHZ]
end Go.Proofs.YtakemdamegfcfaaGreat
