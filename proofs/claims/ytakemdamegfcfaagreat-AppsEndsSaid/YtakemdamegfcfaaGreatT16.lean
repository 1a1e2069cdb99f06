/- A part of a proof: what functions of the program compute. No condition. -/
import Derived.Test.YtakemdamegfcfaaGreatT15
import Derived.Test.YtakemdamegfcfaaGreatProg
import Derived.KernelRfl
import Derived.Test.YtakemdamegfcfaaGreatT6
import Derived.Test.YtakemdamegfcfaaGreatT10
import Derived.Test.YtakemdamegfcfaaGreatT14
import Derived.Test.YtakemdamegfcfaaGreatT11
set_option linter.unusedSimpArgs false
set_option linter.unusedVariables false
set_option maxHeartbeats 16000000
set_option maxRecDepth 100000
namespace Go.Proofs.YtakemdamegfcfaaGreat
open Go Go.Ab
def aAy (qs:List Queue) (k:Nat) (n:Int) (p:List UInt8):Int:=IntKind.i64.wrap (n+(((fT p qs).getD vR).caps.getD k default).least)
def zY (qs:List Queue) (k:Nat) (l:List (List UInt8)):Int:=l.foldl (aAy qs k) 0
def zE (qs:List Queue) (i k:Nat):Prop:=eT (qs.getD i default).path qs≠[]/\zY qs k (eT (qs.getD i default).path qs)≠10000
open Classical in
noncomputable def zG (ls:List (List UInt8)) (qs:List Queue):Bool:=if ∃ i k,i<qs.length/\k<ls.length/\zE qs i k then false else true
theorem aFs {qs:List Queue} {p x:List UInt8} (h:x∈eT p qs):∃ y∈qs,fT x qs=some y:=by
 obtain ⟨y,hy,rfl⟩:=List.mem_map.1 h
 have hy:=(List.mem_filter.1 hy).1
 cases hf:fT y.path qs with
 | none =>
   have:=List.find?_eq_none.1 hf y hy
   simp at this
 | some z=>exact ⟨z,List.mem_of_find?_eq_some hf,rfl⟩
theorem aA3 {ls:List (List UInt8)} {qs:List Queue} {i k:Nat} (h1:i<qs.length) (h2:k<ls.length) (h3:zE qs i k):zG ls qs=false:=by
 unfold zG
 rw [if_pos ⟨i,k,h1,h2,h3⟩]
set_option maxHeartbeats 4000000 in
theorem aNu (ls:List (List UInt8)) (qs:List Queue) (h:C0 ls qs) (hc:∀ q∈qs,q.caps.length=ls.length):aT Tryz.prog 145 [.agg (bN ls qs)] (.bool (zG ls qs)):=by
 have hl:=h.l
 have hq:=h.q
 unfold aT
 refine aK aWt (by simp) ?_
 unfold aPG bN
 refine Ya ?_
 unfold aD8
 refine Ya ?_
 refine aF (σ:=Nat) (fun i=>⟨[(1,.ref 0 0 0),(3,.int .i64 (i:Int))],[.box (bN ls qs)]⟩) (fun i=>i<=qs.length/\∀ j k,j<i->k<ls.length->¬ zE qs j k) (fun i=>qs.length-i) 0 (.inl rfl) ⟨by omega,fun j k h=>by omega⟩ ?_
 rintro i ⟨hi,hall⟩
 unfold aD5
 by_cases hil:i<qs.length
 case neg =>
  have e:zG ls qs=true:=by
   unfold zG
   rw [if_neg]
   rintro ⟨j,k,j1,k1,hb⟩
   exact hall j k (by omega) k1 hb
  rw [e]
  unfold bN
  simp -implicitDefEqProofs(disch:=first|decide|omega)only[↓aA,aC,aB,simprocAttr]
 obtain ⟨q,hqd⟩:∃ q,qs.getD i default=q:=⟨_,rfl⟩
 have c110:=oQ ls qs h.qz q.path
 have hkl:(eT q.path qs).length<=3000:=by
  unfold eT
  rw [List.length_map]
  exact Nat.le_trans (List.length_filter_le _ _) hq
 have hkf:∀ x∈eT q.path qs,∃ y∈qs,fT x qs=some y:=fun x hx=>aFs hx
 have hbd:∀ k,zE qs i k↔eT q.path qs≠[]/\zY qs k (eT q.path qs)≠10000:=fun k=>by unfold zE;rw [hqd]
 have hp1:∀ x∈eT q.path qs,x.length<=2000:=fun x hx=>by
  obtain ⟨y,hy,rfl⟩:=List.mem_map.1 hx
  exact (h.qr y (List.mem_filter.1 hy).1).1
 unfold bN at c110 ⊢
 generalize eT q.path qs=K at c110 hkl hkf hbd hp1
 simp -implicitDefEqProofs(disch:=first|decide|omega)only[↓aA,aC,aB,simprocAttr,bB,bW,hqd]
 repeat refine And.intro (by omega) ?_
 refine aE (aI.of (aM:=false) (c110) (.refl rfl) rfl (by simp)) ?_
 refine Yk ?_
 unfold aD9
 refine Ya ?_
 refine aF (σ:=Nat) (fun k=>⟨[(1,.ref 0 0 0),(3,.int .i64 (i:Int)),(4,.sl false 1 (K.map .str)),(5,.int .i64 (k:Int))],[.box (bN ls qs)]⟩) (fun k=>k<=ls.length/\∀ j,j<k->¬ zE qs i j) (fun k=>ls.length-k) 0 (.inl rfl) ⟨by omega,fun j h=>by omega⟩ ?_
 rintro k ⟨hk,hnb⟩
 have next:(∀ j,j<ls.length->¬ zE qs i j)->∀ j k,j<i+1->k<ls.length->¬ zE qs j k:=fun h2 j k j1 k1=>by
  by_cases hj:j=i
  · subst hj;exact h2 k k1
  · exact hall j k (by omega) k1
 unfold aD6 bN
 by_cases hkl2:k<ls.length
 case neg =>
  simp -implicitDefEqProofs(disch:=first|decide|omega)only[↓aA,aC,aB,simprocAttr,bB]
  repeat refine And.intro (by omega) ?_
  exact ⟨i+1,.inl rfl,⟨by omega,next fun j hj=>hnb j (by omega)⟩,by omega⟩
 by_cases hK:K=[]
 · subst hK
   simp -implicitDefEqProofs(disch:=first|decide|omega)only[↓aA,aC,aB,simprocAttr,bB,List.map_nil]
   repeat refine And.intro (by omega) ?_
   exact ⟨i+1,.inl rfl,⟨by omega,next fun j hj hb=>((hbd j).1 hb).1 rfl⟩,by omega⟩
 have hK0:0<K.length:=List.length_pos_iff.2 hK
 refine Yb ?_
 unfold aEa
 refine Ya ?_
 refine aF (σ:=Nat) (fun j=>⟨[(1,.ref 0 0 0),(3,.int .i64 (i:Int)),(4,.sl false 1 (K.map .str)),(5,.int .i64 (k:Int)),(6,.int .i64 (zY qs k (K.take j))),(7,.int .i64 (j:Int))],[.box (bN ls qs)]⟩) (fun j=>j<=K.length) (fun j=>K.length-j) 0 ?_ (by omega) ?_
 · refine .inl ?_
   rfl
 intro j hj
 unfold aD7 bN
 by_cases hjl:j<K.length
 · have hg:K.getD j default=K[j]:=by simp [hjl]
   obtain ⟨y,hy,hf⟩:=hkf K[j] (List.getElem_mem hjl)
   have hyc:=hc y hy
   have c132:=kR ls qs h.qz K[j]
   unfold dT bN at c132
   simp -implicitDefEqProofs(disch:=first|decide|omega)only[↓aA,aC,aB,simprocAttr,bB,hg]
   repeat refine And.intro (by omega) ?_
   refine bP (c132) rfl rfl ?_
   rw [hf]
   simp -implicitDefEqProofs(disch:=first|decide|omega)only[↓aA,aC,aB,simprocAttr,bB,bW,kH,Option.isSome_some,Option.getD_some]
   refine ⟨by omega,by omega,j+1,?_,by omega,by omega⟩
   have es:zY qs k (K.take (j+1))=IntKind.i64.wrap (zY qs k (K.take j)+(y.caps.getD k default).least):=by
    unfold zY
    rw [List.take_add_one,List.getElem?_eq_getElem hjl,Option.toList_some,List.foldl_append]
    show aAy qs k _ K[j]=_
    unfold aAy
    rw [hf]
    rfl
   rw [es]
   exact Sub.ofS [some 0]
 · have hje:j=K.length:=by omega
   subst hje
   rw [List.take_length]
   by_cases hs:zY qs k K=10000
   · simp -implicitDefEqProofs(disch:=first|decide|omega)only[↓aA,aC,aB,simprocAttr,bB,hs]
     repeat refine And.intro (by omega) ?_
     refine ⟨k+1,.inl rfl,⟨by omega,fun j hj=>?_⟩,by omega⟩
     by_cases hjk:j=k
     · subst hjk;exact fun hb=>((hbd j).1 hb).2 hs
     · exact hnb j (by omega)
   · rw [aA3 hil hkl2 ((hbd k).2 ⟨hK,hs⟩)]
     simp -implicitDefEqProofs(disch:=first|decide|omega)only[↓aA,aC,aB,simprocAttr,bB,hs]
def aSt (ls:List (List UInt8)) (qs:List Queue) (i:Nat):Prop:=i<qs.length/\l8 ls qs i≠0/\∀ j,j<i->l8 ls qs j=0
open Classical in
noncomputable def e95 (ls:List (List UInt8)) (qs:List Queue):Int :=
 if iR ls qs≠0 then iR ls qs
 else if qs.length=0∨((qs.getD 0 default).path==nO)=false then 12
 else if h:∃ i,aSt ls qs i then l8 ls qs (Classical.choose h)
 else if ∃ k,k<ls.length/\(qs.getD 0 default).caps.getD k default≠⟨10000,10000⟩ then 13
 else if zG ls qs=false then 13 else 0
theorem aKW {x:Cap} {K:AV->Prop} (h:K (.bool (!(x.least==10000&&x.most==10000)))):aGO true [.int .i64 0,.int .i64 0] (CAP x) (.agg [.int .i64 10000,.int .i64 10000]) K:=⟨_,rfl,by rw [Bool.and_true];exact h⟩
set_option maxHeartbeats 4000000 in
theorem aJY (ls:List (List UInt8)) (qs:List Queue) (h:C0 ls qs):aT Tryz.prog 95 [.agg (bN ls qs)] (.int .i64 (e95 ls qs)):=by
 have hl:=h.l
 have hq:=h.q
 have c143:=aNw ls qs h
 unfold aT
 refine aK aYO (by simp) ?_
 unfold aXj
 unfold bN at c143 ⊢
 refine Yb ?_
 refine aE (aI.of (aM:=false) (c143) (.refl rfl) rfl (by simp)) ?_
 by_cases h1:iR ls qs=0
 case neg =>
  have e:e95 ls qs=iR ls qs:=by unfold e95;rw [if_pos h1]
  rw [e]
  refine Xb h1 ?_
  refine aE (aI.of (aM:=false) (c143) (.refl rfl) rfl (by simp)) ?_
  simp -implicitDefEqProofs(disch:=first|decide|omega)only[↓aA,aC,aB,simprocAttr,bB]
 have n1:¬ iR ls qs≠0:=fun g=>g h1
 by_cases h2:qs.length=0
 · have e:e95 ls qs=12:=by unfold e95;rw [if_neg n1,if_pos (.inl h2)]
   rw [e]
   simp -implicitDefEqProofs(disch:=first|decide|omega)only[↓aA,aC,aB,simprocAttr,bB,h1,h2]
 obtain ⟨q,hqd⟩:∃ q,qs.getD 0 default=q:=⟨_,rfl⟩
 cases h3:q.path==nO
 · have e:e95 ls qs=12:=by unfold e95;rw [if_neg n1,if_pos (.inr (by rw [hqd];exact h3))]
   rw [e]
   have h3':(q.path==[114,111,111,116])=false:=h3
   simp -implicitDefEqProofs(disch:=first|decide|omega)only[↓aA,aC,aB,simprocAttr,bB,bW,h1,hqd,h3']
   try omega
 have n2:¬ (qs.length=0∨((qs.getD 0 default).path==nO)=false):=by
  rw [hqd,h3]
  simp [h2]
 have h3':(q.path==[114,111,111,116])=true:=h3
 simp -implicitDefEqProofs(disch:=first|decide|omega)only[↓aA,aC,aB,simprocAttr,bB,bW,h1,hqd,h3']
 repeat refine And.intro (by omega) ?_
 unfold aI2
 refine Ya ?_
 refine aF (σ:=Nat) (fun i=>⟨[(1,.ref 0 0 0),(3,.int .i64 (i:Int))],[.box (bN ls qs)]⟩) (fun i=>i<=qs.length/\∀ j,j<i->l8 ls qs j=0) (fun i=>qs.length-i) 0 (.inl rfl) ⟨by omega,fun j h=>by omega⟩ ?_
 rintro i ⟨hi,hall⟩
 unfold aI0 bN
 by_cases hil:i<qs.length
 · have c144:=aNv ls qs h i hil
   unfold bN at c144
   refine Yb ?_
   refine aE (aI.of (aM:=false) (c144) (.refl rfl) rfl (by simp)) ?_
   by_cases h4:l8 ls qs i=0
   · simp -implicitDefEqProofs(disch:=first|decide|omega)only[↓aA,aC,aB,simprocAttr,bB,h4]
     repeat refine And.intro (by omega) ?_
     refine ⟨i+1,.inl rfl,⟨by omega,fun j hj=>?_⟩,by omega⟩
     by_cases hji:j=i
     · subst hji;exact h4
     · exact hall j (by omega)
   · have e:e95 ls qs=l8 ls qs i:=by
      have hx:∃ i,aSt ls qs i:=⟨i,hil,h4,hall⟩
      unfold e95
      rw [if_neg n1,if_neg n2,dif_pos hx]
      obtain ⟨g1,g2,g3⟩:=Classical.choose_spec hx
      generalize Classical.choose hx=m at g1 g2 g3
      rcases Nat.lt_trichotomy m i with hlt|heq|hgt
      · exact absurd (hall m hlt) g2
      · rw [heq]
      · exact absurd (g3 i hgt) h4
     rw [e]
     refine Xb h4 ?_
     refine aE (aI.of (aM:=false) (c144) (.refl rfl) rfl (by simp)) ?_
     simp -implicitDefEqProofs(disch:=first|decide|omega)only[↓aA,aC,aB,simprocAttr,bB]
 have n3:¬ ∃ i,aSt ls qs i:=by
  rintro ⟨j,j1,j2,j3⟩
  exact j2 (hall j (by omega))
 have hcap:∀ q∈qs,q.caps.length=ls.length:=fun y hy=>by
  obtain ⟨j,hj,rfl⟩:=List.getElem_of_mem hy
  have:=(qD (hall j (by omega))).2
  rwa [show qs.getD j default=qs[j] by simp [hj]] at this
 have hqc:q.caps.length=ls.length:=hcap q (by
  have h0:0<qs.length:=by omega
  rw [<- hqd,show qs.getD 0 default=qs[0] by simp [h0]]
  exact List.getElem_mem _)
 refine Yb ?_
 unfold aI3
 refine Ya ?_
 refine aF (σ:=Nat) (fun k=>⟨[(1,.ref 0 0 0),(4,.int .i64 (k:Int))],[.box (bN ls qs)]⟩) (fun k=>k<=ls.length/\∀ j,j<k->q.caps.getD j default=⟨10000,10000⟩) (fun k=>ls.length-k) 0 (.inl rfl) ⟨by omega,fun j h=>by omega⟩ ?_
 rintro k ⟨hk,hw⟩
 unfold aI1 bN
 by_cases hkl:k<ls.length
 · obtain ⟨x,hx⟩:∃ x,q.caps.getD k default=x:=⟨_,rfl⟩
   simp -implicitDefEqProofs(disch:=first|decide|omega)only[↓aA,aC,aB,simprocAttr,bB,bW,kH,hqd,hx]
   repeat refine And.intro (by omega) ?_
   refine aKW ?_
   cases hw1:(x.least==10000&&x.most==10000)
   · have hne:q.caps.getD k default≠⟨10000,10000⟩:=by
      rw [hx]
      rintro rfl
      simp at hw1
     have e:e95 ls qs=13:=by unfold e95;rw [if_neg n1,if_neg n2,dif_neg n3,if_pos ⟨k,hkl,by rw [hqd];exact hne⟩]
     rw [e]
     simp -implicitDefEqProofs(disch:=first|decide|omega)only[↓aA,aC,aB,simprocAttr,bB,Bool.not_false]
   · have heq:q.caps.getD k default=⟨10000,10000⟩:=by
      rw [hx]
      simp only [Bool.and_eq_true,beq_iff_eq] at hw1
      cases x
      simp only at hw1
      rw [hw1.1,hw1.2]
     simp -implicitDefEqProofs(disch:=first|decide|omega)only[↓aA,aC,aB,simprocAttr,bB,Bool.not_true]
     repeat refine And.intro (by omega) ?_
     refine ⟨k+1,.inl rfl,⟨by omega,fun j hj=>?_⟩,by omega⟩
     by_cases hjk:j=k
     · subst hjk;exact heq
     · exact hw j (by omega)
 have n4:¬ ∃ k,k<ls.length/\(qs.getD 0 default).caps.getD k default≠⟨10000,10000⟩:=by
  rintro ⟨j,j1,j2⟩
  rw [hqd] at j2
  exact j2 (hw j (by omega))
 have c145:=aNu ls qs h hcap
 unfold bN at c145
 refine Yb ?_
 refine aE (aI.of (aM:=false) (c145) (.refl rfl) rfl (by simp)) ?_
 cases h5:zG ls qs
 · have e:e95 ls qs=13:=by unfold e95;rw [if_neg n1,if_neg n2,dif_neg n3,if_neg n4,if_pos h5]
   rw [e]
   simp -implicitDefEqProofs(disch:=first|decide|omega)only[↓aA,aC,aB,simprocAttr,bB]
 · have e:e95 ls qs=0:=by unfold e95;rw [if_neg n1,if_neg n2,dif_neg n3,if_neg n4,if_neg (by rw [h5];simp)]
   rw [e]
   simp -implicitDefEqProofs(disch:=first|decide|omega)only[↓aA,aC,aB,simprocAttr,bB]
theorem aIE {ls:List (List UInt8)} {qs:List Queue} (h:e95 ls qs=0):CT ls qs:=by
 unfold e95 at h
 split at h
 · rename_i h1
   exact absurd h h1
 rename_i h1
 have h1:iR ls qs=0:=Classical.not_not.1 h1
 obtain ⟨g1,g2,g3,g4⟩:=aFS h1
 split at h
 · cases h
 rename_i h2
 split at h
 · rename_i hx
   exact absurd h (Classical.choose_spec hx).2.1
 rename_i hx
 have all:∀ i,i<qs.length->l8 ls qs i=0:=fun i=>by
  induction i using Nat.strongRecOn with
  | _ i ih =>
    intro hi
    by_cases h0:l8 ls qs i=0
    · exact h0
    · exact absurd ⟨i,hi,h0,fun j hj=>ih j hj (by omega)⟩ hx
 refine ⟨g1,g2,g4,by omega,g3,fun q hq=>?_⟩
 obtain ⟨j,hj,rfl⟩:=List.getElem_of_mem hq
 have:=qD (all j hj)
 rw [show qs.getD j default=qs[j] by simp [hj]] at this
 exact ⟨this.1,by omega⟩
def a08:{c:CC // aJ Tryz.prog 159=c}:=⟨_,by conv=>lhs;reduce⟩
def aTW:{c:CC // bA Tryz.prog 159 {} a08.1 [([1,1,0,1,0,0,1,0,0,1,0],(.f [1,3,0,2,4,5,6,7,8]))]=c}:=⟨_,by conv=>lhs;reduce⟩
def aDH:CC:=(fun (c:CC) (_:(aTW.1.aV [1,1,0,1,0,0])=c)=>c) _ (by conv=>lhs;reduce)
def aDI:CC:=(fun (c:CC->CC) (_:(fun a0=>(aTW.1.aV [1,1,0,1]).aU [0,0] a0)=c)=>c) _ (by conv=>lhs;reduce) aDH
def aPu:CC:=(fun (c:CC->CC) (_:(fun a0=>(aTW.1).aU [1,1,0,1] a0)=c)=>c) _ (by conv=>lhs;reduce) aDI
theorem aRY:aX Tryz.prog 159 aPu [.ce 4 27 2 true] 40:=aX.of Tryz.f159 Tryz.func159 rfl ⟨by kernel_rfl,trivial⟩
def a0O:{c:CC // aJ Tryz.prog 197=c}:=⟨_,by conv=>lhs;reduce⟩
def aZE:{c:CC // bA Tryz.prog 197 {} a0O.1 []=c}:=⟨_,by conv=>lhs;reduce⟩
def aPa:CC:=(fun (c:CC) (_:(aZE.1)=c)=>c) _ (by conv=>lhs;reduce)
theorem aRQ:aX Tryz.prog 197 aPa [.ce 6 27 2 true] 11:=aX.of Tryz.f197 Tryz.func197 rfl ⟨by kernel_rfl,trivial⟩
def a0N:{c:CC // aJ Tryz.prog 198=c}:=⟨_,by conv=>lhs;reduce⟩
def aZD:{c:CC // bA Tryz.prog 198 {} a0N.1 []=c}:=⟨_,by conv=>lhs;reduce⟩
def aO9:CC:=(fun (c:CC) (_:(aZD.1)=c)=>c) _ (by conv=>lhs;reduce)
theorem aV9:aZ Tryz.prog 198 aO9 [4] 16:=aZ.of Tryz.f198 Tryz.func198 rfl
def a0M:{c:CC // aJ Tryz.prog 199=c}:=⟨_,by conv=>lhs;reduce⟩
def aTJ:{c:CC // bA Tryz.prog 199 {} a0M.1 []=c}:=⟨_,by conv=>lhs;reduce⟩
def aC3:CC:=(fun (c:CC) (_:(aTJ.1.aV [1,1,0,1,0,0])=c)=>c) _ (by conv=>lhs;reduce)
def aC4:CC:=(fun (c:CC->CC) (_:(fun a0=>(aTJ.1.aV [1,1,0,1]).aU [0,0] a0)=c)=>c) _ (by conv=>lhs;reduce) aC3
def aO8:CC:=(fun (c:CC->CC) (_:(fun a0=>(aTJ.1).aU [1,1,0,1] a0)=c)=>c) _ (by conv=>lhs;reduce) aC4
theorem aV8:aZ Tryz.prog 199 aO8 [4] 59:=aZ.of Tryz.f199 Tryz.func199 rfl
def a0F:{c:CC // aJ Tryz.prog 206=c}:=⟨_,by conv=>lhs;reduce⟩
def aTF:{c:CC // bA Tryz.prog 206 {} a0F.1 [([1,1,0,1,0,0,1,0,0,1,0],(.f [1,2,3,4,0,5,6,7]))]=c}:=⟨_,by conv=>lhs;reduce⟩
def aCN:CC:=(fun (c:CC) (_:(aTF.1.aV [1,1,0,1,0,0])=c)=>c) _ (by conv=>lhs;reduce)
def aCO:CC:=(fun (c:CC->CC) (_:(fun a0=>(aTF.1.aV [1,1,0,1]).aU [0,0] a0)=c)=>c) _ (by conv=>lhs;reduce) aCN
def aO1:CC:=(fun (c:CC->CC) (_:(fun a0=>(aTF.1).aU [1,1,0,1] a0)=c)=>c) _ (by conv=>lhs;reduce) aCO
theorem aRO:aX Tryz.prog 206 aO1 [.ce 6 27 2 true] 49:=aX.of Tryz.f206 Tryz.func206 rfl ⟨by kernel_rfl,trivial⟩
def a0D:{c:CC // aJ Tryz.prog 212=c}:=⟨_,by conv=>lhs;reduce⟩
def aZB:{c:CC // bA Tryz.prog 212 {} a0D.1 []=c}:=⟨_,by conv=>lhs;reduce⟩
def aOZ:CC:=(fun (c:CC) (_:(aZB.1)=c)=>c) _ (by conv=>lhs;reduce)
theorem aV2:aZ Tryz.prog 212 aOZ [4] 20:=aZ.of Tryz.f212 Tryz.func212 rfl
def a0A:{c:CC // aJ Tryz.prog 215=c}:=⟨_,by conv=>lhs;reduce⟩
def aTD:{c:CC // bA Tryz.prog 215 {} a0A.1 [([1,1,0,1,0,0,1,0,0,0],(.f [1,2,3,5,1004,0,7,9,2006,2008,10])),([1,1,0,1,0,0,1,0,0,1,0,0],(.f [2,3,4,6,1005,0,1,2007,2008,9])),([1,1,0,1,0,0,1,0,0,1,1,0],(.f [0,1,2,3,4,5,8,11,6,7,10,2009,2012,2013,2014,15,16]))]=c}:=⟨_,by conv=>lhs;reduce⟩
def aCJ:CC:=(fun (c:CC) (_:(aTD.1.aV [1,1,0,1,0,0])=c)=>c) _ (by conv=>lhs;reduce)
def aCK:CC:=(fun (c:CC->CC) (_:(fun a0=>(aTD.1.aV [1,1,0,1]).aU [0,0] a0)=c)=>c) _ (by conv=>lhs;reduce) aCJ
def aOW:CC:=(fun (c:CC->CC) (_:(fun a0=>(aTD.1).aU [1,1,0,1] a0)=c)=>c) _ (by conv=>lhs;reduce) aCK
theorem aVZ:aZ Tryz.prog 215 aOW [8] 56:=aZ.of Tryz.f215 Tryz.func215 rfl
def a0y:{c:CC // aJ Tryz.prog 217=c}:=⟨_,by conv=>lhs;reduce⟩
def aZy:{c:CC // bA Tryz.prog 217 {} a0y.1 []=c}:=⟨_,by conv=>lhs;reduce⟩
def aOU:CC:=(fun (c:CC) (_:(aZy.1)=c)=>c) _ (by conv=>lhs;reduce)
theorem aVY:aZ Tryz.prog 217 aOU [4] 8:=aZ.of Tryz.f217 Tryz.func217 rfl
def a0v:{c:CC // aJ Tryz.prog 220=c}:=⟨_,by conv=>lhs;reduce⟩
def aTC:{c:CC // bA Tryz.prog 220 {} a0v.1 [([1,1,0,1,0,0,1,0,0,0],(.f [1,3,0,2,4,5,6,11,2007,8,9,10,12,13])),([1,1,0,1,0,0,1,0,0,1,1,0],(.f [1,3,0,2,4,5,6,7,8]))]=c}:=⟨_,by conv=>lhs;reduce⟩
def aCB:CC:=(fun (c:CC) (_:(aTC.1.aV [1,1,0,1,0,0])=c)=>c) _ (by conv=>lhs;reduce)
def aCC:CC:=(fun (c:CC->CC) (_:(fun a0=>(aTC.1.aV [1,1,0,1]).aU [0,0] a0)=c)=>c) _ (by conv=>lhs;reduce) aCB
def aOR:CC:=(fun (c:CC->CC) (_:(fun a0=>(aTC.1).aU [1,1,0,1] a0)=c)=>c) _ (by conv=>lhs;reduce) aCC
theorem aRK:aX Tryz.prog 220 aOR [.ce 10 27 2 true] 69:=aX.of Tryz.f220 Tryz.func220 rfl ⟨by kernel_rfl,trivial⟩
def a0t:{c:CC // aJ Tryz.prog 222=c}:=⟨_,by conv=>lhs;reduce⟩
def aZx:{c:CC // bA Tryz.prog 222 {} a0t.1 []=c}:=⟨_,by conv=>lhs;reduce⟩
def aOQ:CC:=(fun (c:CC) (_:(aZx.1)=c)=>c) _ (by conv=>lhs;reduce)
theorem aRJ:aX Tryz.prog 222 aOQ [.ce 6 27 2 true] 11:=aX.of Tryz.f222 Tryz.func222 rfl ⟨by kernel_rfl,trivial⟩
def a0s:{c:CC // aJ Tryz.prog 223=c}:=⟨_,by conv=>lhs;reduce⟩
def aTB:{c:CC // bA Tryz.prog 223 {} a0s.1 [([1,1,0,1,0,0,1,0,0,1,0],(.f [1,3,7,0,2,4,5,6,2008,2009,10]))]=c}:=⟨_,by conv=>lhs;reduce⟩
def aCz:CC:=(fun (c:CC) (_:(aTB.1.aV [1,1,0,1,0,0])=c)=>c) _ (by conv=>lhs;reduce)
def aCA:CC:=(fun (c:CC->CC) (_:(fun a0=>(aTB.1.aV [1,1,0,1]).aU [0,0] a0)=c)=>c) _ (by conv=>lhs;reduce) aCz
def aOP:CC:=(fun (c:CC->CC) (_:(fun a0=>(aTB.1).aU [1,1,0,1] a0)=c)=>c) _ (by conv=>lhs;reduce) aCA
theorem aRI:aX Tryz.prog 223 aOP [.ce 6 27 2 true] 44:=aX.of Tryz.f223 Tryz.func223 rfl ⟨by kernel_rfl,trivial⟩
def a0q:{c:CC // aJ Tryz.prog 227=c}:=⟨_,by conv=>lhs;reduce⟩
def aZw:{c:CC // bA Tryz.prog 227 {} a0q.1 []=c}:=⟨_,by conv=>lhs;reduce⟩
def aON:CC:=(fun (c:CC) (_:(aZw.1)=c)=>c) _ (by conv=>lhs;reduce)
theorem aVV:aZ Tryz.prog 227 aON [4] 45:=aZ.of Tryz.f227 Tryz.func227 rfl
def a0p:{c:CC // aJ Tryz.prog 228=c}:=⟨_,by conv=>lhs;reduce⟩
def aZv:{c:CC // bA Tryz.prog 228 {} a0p.1 []=c}:=⟨_,by conv=>lhs;reduce⟩
def aOM:CC:=(fun (c:CC) (_:(aZv.1)=c)=>c) _ (by conv=>lhs;reduce)
theorem aRH:aX Tryz.prog 228 aOM [.ce 8 27 2 true] 14:=aX.of Tryz.f228 Tryz.func228 rfl ⟨by kernel_rfl,trivial⟩
def a0o:{c:CC // aJ Tryz.prog 229=c}:=⟨_,by conv=>lhs;reduce⟩
def aZu:{c:CC // bA Tryz.prog 229 {} a0o.1 [([1,1,1,0],(.f [1,2,4,0,5,10,2003,2006,7,8,9,11,12]))]=c}:=⟨_,by conv=>lhs;reduce⟩
def aOL:CC:=(fun (c:CC) (_:(aZu.1)=c)=>c) _ (by conv=>lhs;reduce)
theorem aRG:aX Tryz.prog 229 aOL [.ce 6 27 2 true] 32:=aX.of Tryz.f229 Tryz.func229 rfl ⟨by kernel_rfl,trivial⟩
def a0m:{c:CC // aJ Tryz.prog 231=c}:=⟨_,by conv=>lhs;reduce⟩
def aZt:{c:CC // bA Tryz.prog 231 {} a0m.1 []=c}:=⟨_,by conv=>lhs;reduce⟩
def aOJ:CC:=(fun (c:CC) (_:(aZt.1)=c)=>c) _ (by conv=>lhs;reduce)
theorem aRF:aX Tryz.prog 231 aOJ [.ce 6 27 2 true] 11:=aX.of Tryz.f231 Tryz.func231 rfl ⟨by kernel_rfl,trivial⟩
def a0l:{c:CC // aJ Tryz.prog 232=c}:=⟨_,by conv=>lhs;reduce⟩
def aTy:{c:CC // bA Tryz.prog 232 {} a0l.1 []=c}:=⟨_,by conv=>lhs;reduce⟩
def aCt:CC:=(fun (c:CC) (_:(aTy.1.aV [1,1,0,1,0,0])=c)=>c) _ (by conv=>lhs;reduce)
def aCu:CC:=(fun (c:CC->CC) (_:(fun a0=>(aTy.1.aV [1,1,0,1]).aU [0,0] a0)=c)=>c) _ (by conv=>lhs;reduce) aCt
def aOI:CC:=(fun (c:CC->CC) (_:(fun a0=>(aTy.1).aU [1,1,0,1] a0)=c)=>c) _ (by conv=>lhs;reduce) aCu
theorem aRE:aX Tryz.prog 232 aOI [.ce 4 27 2 true] 44:=aX.of Tryz.f232 Tryz.func232 rfl ⟨by kernel_rfl,trivial⟩
def a0c:{c:CC // aJ Tryz.prog 241=c}:=⟨_,by conv=>lhs;reduce⟩
def aTq:{c:CC // bA Tryz.prog 241 {} a0c.1 [([1,1,0,1,0,0,1,0,0,1,0],(.f [1,2,3,4,5,7,8,9,10,13,14,15,16,17,19,20,21,22,0,6,11,12,18,23,24,25,26,27]))]=c}:=⟨_,by conv=>lhs;reduce⟩
def aB9:CC:=(fun (c:CC) (_:(aTq.1.aV [1,1,0,1,0,0])=c)=>c) _ (by conv=>lhs;reduce)
def aCa:CC:=(fun (c:CC->CC) (_:(fun a0=>(aTq.1.aV [1,1,0,1]).aU [0,0] a0)=c)=>c) _ (by conv=>lhs;reduce) aB9
def aOz:CC:=(fun (c:CC->CC) (_:(fun a0=>(aTq.1).aU [1,1,0,1] a0)=c)=>c) _ (by conv=>lhs;reduce) aCa
theorem aRB:aX Tryz.prog 241 aOz [.ce 4 27 2 true] 49:=aX.of Tryz.f241 Tryz.func241 rfl ⟨by kernel_rfl,trivial⟩
def a0b:{c:CC // aJ Tryz.prog 242=c}:=⟨_,by conv=>lhs;reduce⟩
def aZs:{c:CC // bA Tryz.prog 242 {} a0b.1 [([1,1,0],(.f [0,2,4,6,1,5,9,2003,2007,8,10]))]=c}:=⟨_,by conv=>lhs;reduce⟩
def aOy:CC:=(fun (c:CC) (_:(aZs.1)=c)=>c) _ (by conv=>lhs;reduce)
theorem aRA:aX Tryz.prog 242 aOy [.ce 4 27 2 true,.tm 5] 33:=aX.of Tryz.f242 Tryz.func242 rfl ⟨by kernel_rfl,trivial⟩
def aZ9:{c:CC // aJ Tryz.prog 244=c}:=⟨_,by conv=>lhs;reduce⟩
def aZr:{c:CC // bA Tryz.prog 244 {} aZ9.1 []=c}:=⟨_,by conv=>lhs;reduce⟩
def aOw:CC:=(fun (c:CC) (_:(aZr.1)=c)=>c) _ (by conv=>lhs;reduce)
theorem aVM:aZ Tryz.prog 244 aOw [2] 10:=aZ.of Tryz.f244 Tryz.func244 rfl
def aZ8:{c:CC // aJ Tryz.prog 245=c}:=⟨_,by conv=>lhs;reduce⟩
def aZq:{c:CC // bA Tryz.prog 245 {} aZ8.1 []=c}:=⟨_,by conv=>lhs;reduce⟩
def aOv:CC:=(fun (c:CC) (_:(aZq.1)=c)=>c) _ (by conv=>lhs;reduce)
theorem aVL:aZ Tryz.prog 245 aOv [2] 11:=aZ.of Tryz.f245 Tryz.func245 rfl
def aZ7:{c:CC // aJ Tryz.prog 246=c}:=⟨_,by conv=>lhs;reduce⟩
def aZp:{c:CC // bA Tryz.prog 246 {} aZ7.1 []=c}:=⟨_,by conv=>lhs;reduce⟩
def aOu:CC:=(fun (c:CC) (_:(aZp.1)=c)=>c) _ (by conv=>lhs;reduce)
theorem aVK:aZ Tryz.prog 246 aOu [4] 15:=aZ.of Tryz.f246 Tryz.func246 rfl
def aZ6:{c:CC // aJ Tryz.prog 247=c}:=⟨_,by conv=>lhs;reduce⟩
def aZo:{c:CC // bA Tryz.prog 247 {} aZ6.1 [([1,0],(.f [1,2,5,6,9,10,13,14,0,4,8,12,2003,2007,2011,2015,2016,17]))]=c}:=⟨_,by conv=>lhs;reduce⟩
def aOt:CC:=(fun (c:CC) (_:(aZo.1)=c)=>c) _ (by conv=>lhs;reduce)
theorem aVJ:aZ Tryz.prog 247 aOt [8] 38:=aZ.of Tryz.f247 Tryz.func247 rfl
def aZ5:{c:CC // aJ Tryz.prog 248=c}:=⟨_,by conv=>lhs;reduce⟩
def aZn:{c:CC // bA Tryz.prog 248 {} aZ5.1 []=c}:=⟨_,by conv=>lhs;reduce⟩
def aOs:CC:=(fun (c:CC) (_:(aZn.1)=c)=>c) _ (by conv=>lhs;reduce)
theorem aVI:aZ Tryz.prog 248 aOs [2] 9:=aZ.of Tryz.f248 Tryz.func248 rfl
def aZ4:{c:CC // aJ Tryz.prog 249=c}:=⟨_,by conv=>lhs;reduce⟩
def aZm:{c:CC // bA Tryz.prog 249 {} aZ4.1 [([1,1,0],(.f [0,1,3,4,2002,2005,2006,7]))]=c}:=⟨_,by conv=>lhs;reduce⟩
def aOr:CC:=(fun (c:CC) (_:(aZm.1)=c)=>c) _ (by conv=>lhs;reduce)
theorem aVH:aZ Tryz.prog 249 aOr [8] 34:=aZ.of Tryz.f249 Tryz.func249 rfl
def aZ3:{c:CC // aJ Tryz.prog 250=c}:=⟨_,by conv=>lhs;reduce⟩
def aZl:{c:CC // bA Tryz.prog 250 {} aZ3.1 []=c}:=⟨_,by conv=>lhs;reduce⟩
def aOq:CC:=(fun (c:CC) (_:(aZl.1)=c)=>c) _ (by conv=>lhs;reduce)
theorem aVG:aZ Tryz.prog 250 aOq [4] 77:=aZ.of Tryz.f250 Tryz.func250 rfl
def aZ2:{c:CC // aJ Tryz.prog 251=c}:=⟨_,by conv=>lhs;reduce⟩
def aZk:{c:CC // bA Tryz.prog 251 {} aZ2.1 [([1,0],(.p [0,2,5,7,1,3,4] (.p [6] (.p [8,9] (.f [10,11,12,13]) (.f [11,10,12,13])) (.p [] (.p [10] (.f [8,9,11,12,13]) (.p [11] (.f [8,9,12,13]) (.f [12,8,9,13]))) (.p [11] (.f [8,9,10,12,13]) (.p [10] (.f [8,9,12,13]) (.f [12,8,9,13]))))) (.p [] (.p [8] (.p [6,9] (.f [10,11,12,13]) (.f [11,10,12,13])) (.p [] (.p [10] (.f [6,9,11,12,13]) (.p [11] (.f [6,9,12,13]) (.f [12,6,9,13]))) (.p [11] (.f [6,9,10,12,13]) (.p [10] (.f [6,9,12,13]) (.f [12,6,9,13]))))) (.p [] (.p [10] (.p [6] (.f [8,9,11,12,13]) (.p [11] (.f [8,9,12,13]) (.f [12,8,9,13]))) (.p [] (.p [8] (.f [6,9,11,12,13]) (.p [11] (.f [6,9,12,13]) (.f [12,6,9,13]))) (.p [11] (.p [6] (.f [8,9,12,13]) (.f [12,8,9,13])) (.p [] (.p [8] (.f [6,9,12,13]) (.f [12,6,9,13])) (.f [12,6,8,9,13]))))) (.p [11] (.p [6] (.f [8,9,10,12,13]) (.p [10] (.f [8,9,12,13]) (.f [12,8,9,13]))) (.p [] (.p [8] (.f [6,9,10,12,13]) (.p [10] (.f [6,9,12,13]) (.f [12,6,9,13]))) (.p [10] (.p [6] (.f [8,9,12,13]) (.f [12,8,9,13])) (.p [] (.p [8] (.f [6,9,12,13]) (.f [12,6,9,13])) (.f [12,6,8,9,13])))))))))]=c}:=⟨_,by conv=>lhs;reduce⟩
def aOo:CC:=(fun (c:CC) (_:(aZk.1)=c)=>c) _ (by conv=>lhs;reduce)
theorem aRz:aX Tryz.prog 251 aOo [.ce 4 276 2 true] 23:=aX.of Tryz.f251 Tryz.func251 rfl ⟨by kernel_rfl,trivial⟩
def aZ1:{c:CC // aJ Tryz.prog 252=c}:=⟨_,by conv=>lhs;reduce⟩
def aZj:{c:CC // bA Tryz.prog 252 {} aZ1.1 []=c}:=⟨_,by conv=>lhs;reduce⟩
def aOn:CC:=(fun (c:CC) (_:(aZj.1)=c)=>c) _ (by conv=>lhs;reduce)
theorem aVF:aZ Tryz.prog 252 aOn [4,5] 47:=aZ.of Tryz.f252 Tryz.func252 rfl
def qB (y:AV):Prop:=∃ b:Bool,y= .bool b
def qI (y:AV):Prop:=∃ n:Int,y= .int .i64 n
def qV (y:AV):Prop:=∃ a b:Int,y= .agg [.int .i64 a,.int .i64 b]
theorem aUD (a:Int):aW Tryz.prog 248 [.int .i64 a] [] fun y _=>qB y:=by
 refine aK aVI (by simp) ?_
 unfold aOs
 simp -implicitDefEqProofs(disch:=first|decide|omega)only[↓aA,aC,aB,simprocAttr]
 repeat' (refine bC (fun hb=>?_) (fun hb=>?_)<;>simp -implicitDefEqProofs(disch:=first|decide|omega)only[↓aA,aC,aB,simprocAttr,hb,])
 all_goals exact ⟨_,rfl⟩
theorem aLf (a b:Int):aW Tryz.prog 245 [.agg [.int .i64 a,.int .i64 b]] [] fun y _=>qB y:=by
 refine aK aVL (by simp) ?_
 unfold aOv
 refine Ya ?_
 refine aH (aUD a) rfl (by rintro _ ⟨_,rfl⟩;rfl) ?_
 rintro _ ⟨b1,rfl⟩
 simp -implicitDefEqProofs(disch:=first|decide|omega)only[↓aA,aC,aB,simprocAttr]
 repeat' first
  | exact ⟨_,rfl⟩
  | (refine bC (fun hb=>?_) (fun hb=>?_)<;>simp -implicitDefEqProofs(disch:=first|decide|omega)only[↓aA,aC,aB,simprocAttr,hb])
  | (refine a8 (fun hb=>?_) (fun hb=>?_)<;>simp -implicitDefEqProofs(disch:=first|decide|omega)only[↓aA,aC,aB,simprocAttr,hb])
  | (refine aH (aUD _) rfl (by rintro _ ⟨_,rfl⟩;rfl) ?_;rintro _ ⟨_,rfl⟩;simp -implicitDefEqProofs(disch:=first|decide|omega)only[↓aA,aC,aB,simprocAttr])
theorem aUJ (x:Ask) (n:Node):aW Tryz.prog 227 [ASK x,bO n] [] fun y _=>qI y:=by
 refine aK aVV (by simp) ?_
 unfold aON
 simp -implicitDefEqProofs(disch:=first|decide|omega)only[↓aA,aC,aB,simprocAttr,bF,aN]
 repeat' first
  | exact ⟨_,rfl⟩
  | (refine bC (fun hb=>?_) (fun hb=>?_)<;>simp -implicitDefEqProofs(disch:=first|decide|omega)only[↓aA,aC,aB,simprocAttr,hb,bF,aN])
  | (refine a8 (fun hb=>?_) (fun hb=>?_)<;>simp -implicitDefEqProofs(disch:=first|decide|omega)only[↓aA,aC,aB,simprocAttr,hb,bF,aN])
theorem aUO (x:Ask) (n:Node):aW Tryz.prog 212 [ASK x,bO n] [] fun y _=>qB y:=by
 refine aK aV2 (by simp) ?_
 unfold aOZ
 simp -implicitDefEqProofs(disch:=first|decide|omega)only[↓aA,aC,aB,simprocAttr,bF,aN]
 repeat' first
  | exact ⟨_,rfl⟩
  | (refine aH (aUJ _ _) rfl (by rintro _ ⟨_,rfl⟩;rfl) ?_;rintro _ ⟨_,rfl⟩;simp -implicitDefEqProofs(disch:=first|decide|omega)only[↓aA,aC,aB,simprocAttr,bF,aN])
  | (refine bC (fun hb=>?_) (fun hb=>?_)<;>simp -implicitDefEqProofs(disch:=first|decide|omega)only[↓aA,aC,aB,simprocAttr,hb,bF,aN])
  | (refine a8 (fun hb=>?_) (fun hb=>?_)<;>simp -implicitDefEqProofs(disch:=first|decide|omega)only[↓aA,aC,aB,simprocAttr,hb,bF,aN])
theorem aUE (a b:Int):aW Tryz.prog 246 [.int .i64 a,.int .i64 b] [] fun y _=>qI y:=by
 refine aK aVK (by simp) ?_
 unfold aOu
 simp -implicitDefEqProofs(disch:=first|decide|omega)only[↓aA,aC,aB,simprocAttr]
 repeat' first
  | exact ⟨_,rfl⟩
  | with_reducible apply And.intro
  | omega
def aZh (a b:Int):Int:=IntKind.i64.wrap (BitVec.ofInt IntKind.i64.bits a &&& BitVec.ofInt IntKind.i64.bits b).toNat
theorem aSo {a b:Int} {K:AV->Prop}:ik .and .i64 a b K=K (.int .i64 (aZh a b)):=rfl
theorem aUA (a b:Int):aW Tryz.prog 252 [.int .i64 a,.int .i64 b] [] fun y _=>∃ a b:Int,y= .tup [.int .i64 a,.int .i64 b]:=by
 refine aK aVF (by simp) ?_
 unfold aOn
 simp -implicitDefEqProofs(disch:=first|decide|omega)only[↓aA,aC,aB,simprocAttr,aSo]
 repeat' first
  | exact ⟨_,_,rfl⟩
  | with_reducible apply And.intro
  | omega
theorem q22 (a b c d:Int):aW Tryz.prog 22 [.agg [.int .i64 a,.int .i64 b],.agg [.int .i64 c,.int .i64 d]] [] fun y _=>qV y:=by
 refine aO aOb (by simp) ?_
 unfold aSR
 simp -implicitDefEqProofs(disch:=first|decide|omega)only[↓aA,aC,aB,simprocAttr,bB]
 repeat' first
  | exact ⟨_,_,rfl⟩
  | with_reducible apply And.intro
  | omega
  | (refine bC (fun hb=>?_) (fun hb=>?_)<;>simp -implicitDefEqProofs(disch:=first|decide|omega)only[↓aA,aC,aB,simprocAttr,hb,bB])
  | (refine a8 (fun hb=>?_) (fun hb=>?_)<;>simp -implicitDefEqProofs(disch:=first|decide|omega)only[↓aA,aC,aB,simprocAttr,hb,bB])
theorem aE7 (a:Int):aW Tryz.prog 244 [.int .i64 a] [] fun y _=>qI y:=by
 refine aK aVM (by simp) ?_
 unfold aOw
 simp -implicitDefEqProofs(disch:=first|decide|omega)only[↓aA,aC,aB,simprocAttr]
 repeat' first
  | exact ⟨_,rfl⟩
  | with_reducible apply And.intro
  | omega
  | (refine bC (fun hb=>?_) (fun hb=>?_)<;>simp -implicitDefEqProofs(disch:=first|decide|omega)only[↓aA,aC,aB,simprocAttr,hb])
  | (refine a8 (fun hb=>?_) (fun hb=>?_)<;>simp -implicitDefEqProofs(disch:=first|decide|omega)only[↓aA,aC,aB,simprocAttr,hb])
theorem aE8 {s:Sta} (h:ST s) (k:Int):aW Tryz.prog 159 [.agg (stC s),.int .i64 k] [] fun y _=>qV y:=by
 have k1:=h.k
 have k2:=h.n
 have k3:=h.a
 have k4:=h.p
 refine aO aRY (by simp) ?_
 unfold aPu
 refine Yi ?_
 unfold aDI
 refine Ya ?_
 refine aF (σ:=Nat×Int×Int) (fun z=>⟨[(1,.int .i64 k),(2,.ref 0 0 0),(4,.ref 1 0 0),(5,.ref 2 0 0),(6,.int .i64 (z.1:Int))],[.box (stC s),.box [.int .i64 0,.int .i64 0],.box [.int .i64 z.2.1,.int .i64 z.2.2]]⟩) (fun z=>z.1<=s.nodes.length) (fun z=>s.nodes.length-z.1) (0,0,0) ?_ (by simp) ?_
 · exact Sub.ofS [some 0,some 1,some 2]
 rintro ⟨i,u,v⟩ hi
 simp only at hi
 unfold aDH
 by_cases hn:i<s.nodes.length
 · simp -implicitDefEqProofs(disch:=first|decide|omega)only[↓aA,aC,aB,simprocAttr,bB,aN]
   repeat' first
    | exact ⟨_,_,rfl⟩
    | (refine ⟨(i+1,va,vb),?_,by simp only;omega,by simp only;omega⟩;(refine Sub.of0 [some 0,some 1,some 2] rfl ?_ rfl ?_<;>repeat' first|trivial|rfl|exact .inl rfl|exact .inr ⟨rfl,_,_,rfl⟩|(simp;done)|(simp;omega)|refine And.intro ?_ ?_);done)
    | (refine ⟨(i+1,u,v),?_,by simp only;omega,by simp only;omega⟩;(refine Sub.of0 [some 0,some 1,some 2] rfl ?_ rfl ?_<;>repeat' first|trivial|rfl|exact .inl rfl|exact .inr ⟨rfl,_,_,rfl⟩|(simp;done)|(simp;omega)|refine And.intro ?_ ?_);done)
    | with_reducible apply And.intro
    | omega
    | (refine aH (q22 _ _ _ _) rfl (by rintro _ ⟨_,_,rfl⟩;rfl) ?_;rintro _ ⟨va,vb,rfl⟩;simp -implicitDefEqProofs(disch:=first|decide|omega)only[↓aA,aC,aB,simprocAttr,bB,aN])
    | (refine a7 (q22 _ _ _ _) rfl (by rintro _ ⟨_,_,rfl⟩;rfl) ?_;rintro _ ⟨va,vb,rfl⟩;simp -implicitDefEqProofs(disch:=first|decide|omega)only[↓aA,aC,aB,simprocAttr,bB,aN])
    | (refine bC (fun hb=>?_) (fun hb=>?_)<;>simp -implicitDefEqProofs(disch:=first|decide|omega)only[↓aA,aC,aB,simprocAttr,hb,bB,aN])
    | (refine a8 (fun hb=>?_) (fun hb=>?_)<;>simp -implicitDefEqProofs(disch:=first|decide|omega)only[↓aA,aC,aB,simprocAttr,hb,bB,aN])
 · simp -implicitDefEqProofs(disch:=first|decide|omega)only[↓aA,aC,aB,simprocAttr,bB,aN]
   repeat' first
    | exact ⟨_,_,rfl⟩
    | with_reducible apply And.intro
    | omega
theorem aUG {s:Sta} (h:ST s) (k:Int):aW Tryz.prog 232 [.agg (stC s),.int .i64 k] [] fun y _=>qV y:=by
 have k1:=h.k
 have k2:=h.n
 have k3:=h.a
 have k4:=h.p
 refine aO aRE (by simp) ?_
 unfold aOI
 refine Yd ?_
 unfold aCu
 refine Ya ?_
 refine aF (σ:=Nat×Int×Int) (fun z=>⟨[(1,.int .i64 k),(2,.ref 0 0 0),(4,.ref 1 0 0),(5,.ref 2 0 0),(6,.int .i64 (z.1:Int))],[.box (stC s),.box [.int .i64 0,.int .i64 0],.box [.int .i64 z.2.1,.int .i64 z.2.2]]⟩) (fun z=>z.1<=s.plans.length) (fun z=>s.plans.length-z.1) (0,0,0) ?_ (by simp) ?_
 · exact Sub.ofS [some 0,some 1,some 2]
 rintro ⟨i,u,v⟩ hi
 simp only at hi
 unfold aCt
 by_cases hn:i<s.plans.length
 · simp -implicitDefEqProofs(disch:=first|decide|omega)only[↓aA,aC,aB,simprocAttr,bB,bG]
   repeat' first
    | exact ⟨_,_,rfl⟩
    | (refine ⟨(i+1,va,vb),?_,by simp only;omega,by simp only;omega⟩;(refine Sub.of0 [some 0,some 1,some 2] rfl ?_ rfl ?_<;>repeat' first|trivial|rfl|exact .inl rfl|exact .inr ⟨rfl,_,_,rfl⟩|(simp;done)|(simp;omega)|refine And.intro ?_ ?_);done)
    | (refine ⟨(i+1,u,v),?_,by simp only;omega,by simp only;omega⟩;(refine Sub.of0 [some 0,some 1,some 2] rfl ?_ rfl ?_<;>repeat' first|trivial|rfl|exact .inl rfl|exact .inr ⟨rfl,_,_,rfl⟩|(simp;done)|(simp;omega)|refine And.intro ?_ ?_);done)
    | with_reducible apply And.intro
    | omega
    | (refine aH (q22 _ _ _ _) rfl (by rintro _ ⟨_,_,rfl⟩;rfl) ?_;rintro _ ⟨va,vb,rfl⟩;simp -implicitDefEqProofs(disch:=first|decide|omega)only[↓aA,aC,aB,simprocAttr,bB,bG])
    | (refine a7 (q22 _ _ _ _) rfl (by rintro _ ⟨_,_,rfl⟩;rfl) ?_;rintro _ ⟨va,vb,rfl⟩;simp -implicitDefEqProofs(disch:=first|decide|omega)only[↓aA,aC,aB,simprocAttr,bB,bG])
    | (refine bC (fun hb=>?_) (fun hb=>?_)<;>simp -implicitDefEqProofs(disch:=first|decide|omega)only[↓aA,aC,aB,simprocAttr,hb,bB,bG])
    | (refine a8 (fun hb=>?_) (fun hb=>?_)<;>simp -implicitDefEqProofs(disch:=first|decide|omega)only[↓aA,aC,aB,simprocAttr,hb,bB,bG])
 · simp -implicitDefEqProofs(disch:=first|decide|omega)only[↓aA,aC,aB,simprocAttr,bB,bG]
   repeat' first
    | exact ⟨_,_,rfl⟩
    | with_reducible apply And.intro
    | omega
theorem aUF (l:List Ask) (hl:l.length<=8) (k:Int):aW Tryz.prog 241 [.sl false 8 (l.map ASK),.int .i64 k] [] fun y _=>qV y:=by
 refine aO aRB (by simp) ?_
 unfold aOz
 simp -implicitDefEqProofs(disch:=first|decide|omega)only[↓aA,aC,aB,simprocAttr,bB,bF,List.drop_drop]
 unfold aCa
 refine Ya ?_
 refine aF (σ:=Nat×Int×Int) (fun z=>⟨[(0,.sl false 8 (l.map ASK)),(1,.int .i64 k),(4,.ref 0 0 0),(5,.ref 1 0 0),(6,.int .i64 (z.1:Int))],[.box [.int .i64 0,.int .i64 0],.box [.int .i64 z.2.1,.int .i64 z.2.2]]⟩) (fun z=>z.1<=l.length) (fun z=>l.length-z.1) (0,0,0) ?_ (by simp) ?_
 · exact Sub.ofS [some 0,some 1]
 rintro ⟨i,u,v⟩ hi
 simp only at hi
 unfold aB9
 by_cases hn:i<l.length
 · simp -implicitDefEqProofs(disch:=first|decide|omega)only[↓aA,aC,aB,simprocAttr,bB,bF,List.drop_drop]
   repeat' first
    | exact ⟨_,_,rfl⟩
    | (refine ⟨(i+1,va,vb),?_,by simp only;omega,by simp only;omega⟩;(refine Sub.of0 [some 0,some 1] rfl ?_ rfl ?_<;>repeat' first|trivial|rfl|exact .inl rfl|exact .inr ⟨rfl,_,_,rfl⟩|(simp;done)|(simp;omega)|refine And.intro ?_ ?_);done)
    | (refine ⟨(i+1,u,v),?_,by simp only;omega,by simp only;omega⟩;(refine Sub.of0 [some 0,some 1] rfl ?_ rfl ?_<;>repeat' first|trivial|rfl|exact .inl rfl|exact .inr ⟨rfl,_,_,rfl⟩|(simp;done)|(simp;omega)|refine And.intro ?_ ?_);done)
    | with_reducible apply And.intro
    | omega
    | (refine aH (q22 _ _ _ _) rfl (by rintro _ ⟨_,_,rfl⟩;rfl) ?_;rintro _ ⟨va,vb,rfl⟩;simp -implicitDefEqProofs(disch:=first|decide|omega)only[↓aA,aC,aB,simprocAttr,bB,bF,List.drop_drop])
    | (refine a7 (q22 _ _ _ _) rfl (by rintro _ ⟨_,_,rfl⟩;rfl) ?_;rintro _ ⟨va,vb,rfl⟩;simp -implicitDefEqProofs(disch:=first|decide|omega)only[↓aA,aC,aB,simprocAttr,bB,bF,List.drop_drop])
    | (refine bC (fun hb=>?_) (fun hb=>?_)<;>simp -implicitDefEqProofs(disch:=first|decide|omega)only[↓aA,aC,aB,simprocAttr,hb,bB,bF,List.drop_drop])
    | (refine a8 (fun hb=>?_) (fun hb=>?_)<;>simp -implicitDefEqProofs(disch:=first|decide|omega)only[↓aA,aC,aB,simprocAttr,hb,bB,bF,List.drop_drop])
 · simp -implicitDefEqProofs(disch:=first|decide|omega)only[↓aA,aC,aB,simprocAttr,bB,bF,List.drop_drop]
   repeat' first
    | exact ⟨_,_,rfl⟩
    | with_reducible apply And.intro
    | omega
theorem aQI (l:List dR) (hl:l.length<=12) (k t:Int):aW Tryz.prog 206 [.sl false 6 (l.map eD),.int .i64 k,.int .i64 t] [] fun y _=>qV y:=by
 refine aO aRO (by simp) ?_
 unfold aO1
 refine Yd ?_
 unfold aCO
 refine Ya ?_
 refine aF (σ:=Nat×Int×Int) (fun z=>⟨[(0,.sl false 6 (l.map eD)),(1,.int .i64 k),(2,.int .i64 t),(6,.ref 0 0 0),(7,.ref 1 0 0),(8,.int .i64 (z.1:Int))],[.box [.int .i64 0,.int .i64 0],.box [.int .i64 z.2.1,.int .i64 z.2.2]]⟩) (fun z=>z.1<=l.length) (fun z=>l.length-z.1) (0,0,0) ?_ (by simp) ?_
 · exact Sub.ofS [some 0,some 1]
 rintro ⟨i,u,v⟩ hi
 simp only at hi
 unfold aCN
 by_cases hn:i<l.length
 · simp -implicitDefEqProofs(disch:=first|decide|omega)only[↓aA,aC,aB,simprocAttr,bB,bG]
   repeat' first
    | exact ⟨_,_,rfl⟩
    | (refine ⟨(i+1,va,vb),?_,by simp only;omega,by simp only;omega⟩;(refine Sub.of0 [some 0,some 1] rfl ?_ rfl ?_<;>repeat' first|trivial|rfl|exact .inl rfl|exact .inr ⟨rfl,_,_,rfl⟩|(simp;done)|(simp;omega)|refine And.intro ?_ ?_);done)
    | (refine ⟨(i+1,u,v),?_,by simp only;omega,by simp only;omega⟩;(refine Sub.of0 [some 0,some 1] rfl ?_ rfl ?_<;>repeat' first|trivial|rfl|exact .inl rfl|exact .inr ⟨rfl,_,_,rfl⟩|(simp;done)|(simp;omega)|refine And.intro ?_ ?_);done)
    | with_reducible apply And.intro
    | omega
    | (refine aH (q22 _ _ _ _) rfl (by rintro _ ⟨_,_,rfl⟩;rfl) ?_;rintro _ ⟨va,vb,rfl⟩;simp -implicitDefEqProofs(disch:=first|decide|omega)only[↓aA,aC,aB,simprocAttr,bB,bG])
    | (refine a7 (q22 _ _ _ _) rfl (by rintro _ ⟨_,_,rfl⟩;rfl) ?_;rintro _ ⟨va,vb,rfl⟩;simp -implicitDefEqProofs(disch:=first|decide|omega)only[↓aA,aC,aB,simprocAttr,bB,bG])
    | (refine bC (fun hb=>?_) (fun hb=>?_)<;>simp -implicitDefEqProofs(disch:=first|decide|omega)only[↓aA,aC,aB,simprocAttr,hb,bB,bG])
    | (refine a8 (fun hb=>?_) (fun hb=>?_)<;>simp -implicitDefEqProofs(disch:=first|decide|omega)only[↓aA,aC,aB,simprocAttr,hb,bB,bG])
 · simp -implicitDefEqProofs(disch:=first|decide|omega)only[↓aA,aC,aB,simprocAttr,bB,bG]
   repeat' first
    | exact ⟨_,_,rfl⟩
    | with_reducible apply And.intro
    | omega
theorem q68 (a b c d:Int):aW Tryz.prog 68 [.agg [.int .i64 a,.int .i64 b],.agg [.int .i64 c,.int .i64 d]] [] fun y _=>qV y:=by
 refine aO aOa (by simp) ?_
 unfold aSO
 simp -implicitDefEqProofs(disch:=first|decide|omega)only[↓aA,aC,aB,simprocAttr,bB]
 repeat' first
  | exact ⟨_,_,rfl⟩
  | with_reducible apply And.intro
  | omega
  | (refine bC (fun hb=>?_) (fun hb=>?_)<;>simp -implicitDefEqProofs(disch:=first|decide|omega)only[↓aA,aC,aB,simprocAttr,hb,bB])
  | (refine a8 (fun hb=>?_) (fun hb=>?_)<;>simp -implicitDefEqProofs(disch:=first|decide|omega)only[↓aA,aC,aB,simprocAttr,hb,bB])
theorem aLg (a b n:Int):aW Tryz.prog 242 [.agg [.int .i64 a,.int .i64 b],.int .i64 n] [] fun y _=>∃ a b n:Int,y= .tup [.agg [.int .i64 a,.int .i64 b],.int .i64 n]:=by
 refine aO aRA (by simp) ?_
 unfold aOy
 simp -implicitDefEqProofs(disch:=first|decide|omega)only[↓aA,aC,aB,simprocAttr,bB]
 repeat' first
  | exact ⟨_,_,_,rfl⟩
  | with_reducible apply And.intro
  | omega
  | (refine aH (aLf _ _) rfl (by rintro _ ⟨_,rfl⟩;rfl) ?_;rintro _ ⟨bb,rfl⟩;simp -implicitDefEqProofs(disch:=first|decide|omega)only[↓aA,aC,aB,simprocAttr,bB])
  | (refine a7 (aLf _ _) rfl (by rintro _ ⟨_,rfl⟩;rfl) ?_;rintro _ ⟨bb,rfl⟩;simp -implicitDefEqProofs(disch:=first|decide|omega)only[↓aA,aC,aB,simprocAttr,bB])
  | (refine aH (aUE _ _) rfl (by rintro _ ⟨_,rfl⟩;rfl) ?_;rintro _ ⟨nn,rfl⟩;simp -implicitDefEqProofs(disch:=first|decide|omega)only[↓aA,aC,aB,simprocAttr,bB])
  | (refine a7 (aUE _ _) rfl (by rintro _ ⟨_,rfl⟩;rfl) ?_;rintro _ ⟨nn,rfl⟩;simp -implicitDefEqProofs(disch:=first|decide|omega)only[↓aA,aC,aB,simprocAttr,bB])
  | (refine bC (fun hb=>?_) (fun hb=>?_)<;>simp -implicitDefEqProofs(disch:=first|decide|omega)only[↓aA,aC,aB,simprocAttr,hb,bB])
  | (refine a8 (fun hb=>?_) (fun hb=>?_)<;>simp -implicitDefEqProofs(disch:=first|decide|omega)only[↓aA,aC,aB,simprocAttr,hb,bB])
end Go.Proofs.YtakemdamegfcfaaGreat
