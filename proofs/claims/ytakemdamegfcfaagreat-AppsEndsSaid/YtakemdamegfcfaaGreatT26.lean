/- A part of a proof: what functions of the program compute. No condition. -/
import Derived.Test.YtakemdamegfcfaaGreatT25
import Derived.Test.YtakemdamegfcfaaGreatT12
set_option linter.unusedSimpArgs false
set_option linter.unusedVariables false
set_option maxRecDepth 20000
namespace Go.Proofs.YtakemdamegfcfaaGreat
open Go Go.Ab
def inF (a n:Int):Int:=if a.tmod n<0 then a.tmod n+n else a.tmod n
theorem gO (a n:Int) (h:1<=n):0<=inF a n/\inF a n<n:=by
 have h1:=Int.tmod_lt_of_pos a (show 0<n by omega)
 have h2: -n<a.tmod n:=by
  have:=Int.lt_tmod_of_pos a (show 0<n by omega)
  exact this
 unfold inF
 split<;>omega
theorem dO (a n:Int) (h:1<=n) (h2:n<=1000000):aT Tryz.prog 112 [.int .i64 a,.int .i64 n] (.int .i64 (inF a n)):=by
 unfold aT
 refine aK aWJ (by simp) ?_
 unfold aPZ
 have hr: -n<a.tmod n/\a.tmod n<n:=⟨Int.lt_tmod_of_pos a (by omega),Int.tmod_lt_of_pos a (by omega)⟩
 unfold inF
 generalize hk:a.tmod n=k at hr
 by_cases hc:k<0
 · rw [if_pos hc]
   refine Xa hk ?_
   omega
 · rw [if_neg hc]
   refine Xa hk ?_
   omega
def o6 (qs:List Queue):List Queue:=qs.filter fun q=>iM qs q.path
theorem aFq (ls:List (List UInt8)) (qs:List Queue) (h:QZ qs):aT Tryz.prog 34 [.agg (bN ls qs)] (.sl false 1 (((o6 qs).map Queue.path).map .str)):=by
 have hl:=h.l
 refine aT.wk3 (aK aYY (by simp) ?_)
 unfold aXI bN
 refine Ya ?_
 unfold aJK
 refine Ya ?_
 refine aF (σ:=Nat) (fun k=>⟨[(1,.ref 0 0 0),(3,.own 1 1 0 ((qs.take k).filter fun q=>iM qs q.path).length),(4,.int .i64 (k:Int))],[.box (bN ls qs),.arr 1 ((((qs.take k).filter fun q=>iM qs q.path).map Queue.path).map .str)]⟩) (fun k=>k<=qs.length) (fun k=>qs.length-k) 0 ?_ (by omega) ?_
 · exact Sub.ofS [some 0,none]
 rintro k hk
 unfold aJJ
 have hfl:=dA (p:=fun q=>iM qs q.path) (l:=qs) (k:=k)
 by_cases hki:k<qs.length
 · have hg:qs.getD k default=qs[k]:=by simp [hki]
   have e:=cH (p:=fun q=>iM qs q.path) hki
   have c69:=sQ ls qs h qs[k].path
   unfold bN at c69
   generalize hout:(qs.take k).filter (fun q=>iM qs q.path)=out at e hfl ⊢
   cases ha:iM qs qs[k].path
   · rw [if_neg (by rw [ha];simp),List.append_nil] at e
     rw [ha] at c69
     simp -implicitDefEqProofs(disch:=first|decide|omega)only[↓aA,aC,aB,simprocAttr,bB,bW,bN,hg]
     repeat refine And.intro (by omega) ?_
     refine aE (aI.of (aM:=false) (c69) (.refl rfl) rfl (by simp)) ?_
     simp -implicitDefEqProofs(disch:=first|decide|omega)only[↓aA,aC,aB,simprocAttr,bB,bW,bN,hg]
     repeat refine And.intro (by omega) ?_
     refine ⟨k+1,?_,by omega,by omega⟩
     simp only [e]
     exact .inl rfl
   · rw [if_pos (by rw [ha])] at e
     rw [ha] at c69
     simp -implicitDefEqProofs(disch:=first|decide|omega)only[↓aA,aC,aB,simprocAttr,bB,bW,bN,hg]
     repeat refine And.intro (by omega) ?_
     refine aE (aI.of (aM:=false) (c69) (.refl rfl) rfl (by simp)) ?_
     simp -implicitDefEqProofs(disch:=first|decide|omega)only[↓aA,aC,aB,simprocAttr,bB,bW,bN,hg]
     repeat refine And.intro (by omega) ?_
     refine ⟨k+1,?_,by omega,by omega⟩
     simp only [e,List.map_append,List.map_cons,List.map_nil,List.length_append,List.length_cons,List.length_nil]
     exact Sub.ofS [some 0,some 3]
 · have:k=qs.length:=by omega
   subst this
   simp -implicitDefEqProofs(disch:=first|decide|omega)only[↓aA,aC,aB,simprocAttr,bB,bN,List.take_length]
   exact .inl (.inl (.inl rfl))
theorem yF:∀ {qs:List Queue},qs≠[]->∃ q∈qs,∀ y∈qs,y.path.length<=q.path.length
 | [q],_=>⟨q,by simp,by simp⟩
 | q :: r :: l,_=>by
   obtain ⟨m,hm,hx⟩:=yF (qs:=r :: l) (by simp)
   by_cases h:m.path.length<=q.path.length
   · exact ⟨q,by simp,fun y hy=>(List.mem_cons.1 hy).elim (fun e=>by rw [e];exact Nat.le_refl _) fun hy=>Nat.le_trans (hx y hy) h⟩
   · exact ⟨m,List.mem_cons_of_mem _ hm,fun y hy=>(List.mem_cons.1 hy).elim (fun e=>by rw [e];omega) fun hy=>hx y hy⟩
theorem aFr {qs:List Queue} (h:qs≠[]):1<=(o6 qs).length:=by
 obtain ⟨q,hq,hm⟩:=yF h
 refine List.length_pos_of_mem (a:=q) (List.mem_filter.2 ⟨hq,?_⟩)
 unfold iM
 rw [Bool.and_eq_true]
 constructor
 · unfold fT
   rw [List.find?_isSome]
   exact ⟨q,hq,by simp⟩
 · rw [List.isEmpty_iff]
   unfold eT
   rw [List.map_eq_nil_iff,List.filter_eq_nil_iff]
   intro y hy hk
   unfold wJ at hk
   rw [Bool.and_eq_true] at hk
   have h1:(dH y.path).1=q.path:=by simpa using hk.2
   have h2:q.path≠[]:=by simpa using hk.1
   have h3:=hm y hy
   by_cases h0:y.path=[]
   · rw [h0] at h1
     refine h2 ?_
     rw [<- h1]
     rfl
   · have:=jH y.path h0
     rw [h1] at this
     omega
end Go.Proofs.YtakemdamegfcfaaGreat
