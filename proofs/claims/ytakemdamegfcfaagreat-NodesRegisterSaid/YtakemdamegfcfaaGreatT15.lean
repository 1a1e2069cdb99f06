/- A part of a proof: what functions of the program compute. No condition. -/
import Derived.Test.YtakemdamegfcfaaGreatT7
import Derived.Test.YtakemdamegfcfaaGreatT6
import Derived.Test.YtakemdamegfcfaaGreatT14
import Derived.Test.YtakemdamegfcfaaGreatT13
set_option linter.unusedSimpArgs false
set_option linter.unusedVariables false
set_option maxRecDepth 20000
namespace Go.Proofs.YtakemdamegfcfaaGreat
open Go Go.Ab
theorem aXh (l:List (List UInt8)) (hl:l.length<=2^40):aT Tryz.prog 115 [.sl false 1 (l.map AV.str)] (.sl false 1 (l.map AV.str)):=by
 refine aT.wk3 (aK aWI (by simp) ?_)
 unfold aPX
 simp -implicitDefEqProofs(disch:=first|decide|omega)only[↓aA,aC,aB,simprocAttr]
 refine ⟨fun e=>?_,?_⟩
 · rw [e]
   exact .inl (.inl (.inr ⟨rfl,_,_,rfl⟩))
 · refine ⟨⟨by omega,by omega⟩,?_⟩
   exact .inl (.inl (.inl rfl))
theorem aXf (l:List (Cap)) (hl:l.length<=2^40):aT Tryz.prog 117 [.sl false 2 (l.map CAP)] (.sl false 2 (l.map CAP)):=by
 refine aT.wk3 (aK aWG (by simp) ?_)
 unfold aPV
 simp -implicitDefEqProofs(disch:=first|decide|omega)only[↓aA,aC,aB,simprocAttr]
 refine ⟨fun e=>?_,?_⟩
 · rw [e]
   exact .inl (.inl (.inr ⟨rfl,_,_,rfl⟩))
 · refine ⟨⟨by omega,by omega⟩,?_⟩
   exact .inl (.inl (.inl rfl))
theorem aXd (l:List (bD)) (hl:l.length<=2^40):aT Tryz.prog 119 [.sl false 9 (l.map bY)] (.sl false 9 (l.map bY)):=by
 refine aT.wk3 (aK aWE (by simp) ?_)
 unfold aPT
 simp -implicitDefEqProofs(disch:=first|decide|omega)only[↓aA,aC,aB,simprocAttr]
 refine ⟨fun e=>?_,?_⟩
 · rw [e]
   exact .inl (.inl (.inr ⟨rfl,_,_,rfl⟩))
 · refine ⟨⟨by omega,by omega⟩,?_⟩
   exact .inl (.inl (.inl rfl))
theorem aXc (l:List (dY)) (hl:l.length<=2^40):aT Tryz.prog 120 [.sl false 3 (l.map gW)] (.sl false 3 (l.map gW)):=by
 refine aT.wk3 (aK aWD (by simp) ?_)
 unfold aPS
 simp -implicitDefEqProofs(disch:=first|decide|omega)only[↓aA,aC,aB,simprocAttr]
 refine ⟨fun e=>?_,?_⟩
 · rw [e]
   exact .inl (.inl (.inr ⟨rfl,_,_,rfl⟩))
 · refine ⟨⟨by omega,by omega⟩,?_⟩
   exact .inl (.inl (.inl rfl))
theorem aOf (l:List (dR)) (hl:l.length<=2^40):aT Tryz.prog 121 [.sl false 6 (l.map eD)] (.sl false 6 (l.map eD)):=by
 refine aT.wk3 (aK aWC (by simp) ?_)
 unfold aPR
 simp -implicitDefEqProofs(disch:=first|decide|omega)only[↓aA,aC,aB,simprocAttr]
 refine ⟨fun e=>?_,?_⟩
 · rw [e]
   exact .inl (.inl (.inr ⟨rfl,_,_,rfl⟩))
 · refine ⟨⟨by omega,by omega⟩,?_⟩
   exact .inl (.inl (.inl rfl))
theorem aXa (l:List (Ask)) (hl:l.length<=2^40):aT Tryz.prog 123 [.sl false 8 (l.map ASK)] (.sl false 8 (l.map ASK)):=by
 refine aT.wk3 (aK aWA (by simp) ?_)
 unfold aPP
 simp -implicitDefEqProofs(disch:=first|decide|omega)only[↓aA,aC,aB,simprocAttr]
 refine ⟨fun e=>?_,?_⟩
 · rw [e]
   exact .inl (.inl (.inr ⟨rfl,_,_,rfl⟩))
 · refine ⟨⟨by omega,by omega⟩,?_⟩
   exact .inl (.inl (.inl rfl))
theorem aXg (l:List (Queue)) (hl:l.length<=2^36):aW Tryz.prog 116 [.sl false 3 (l.map QUE)] [] fun y G=>y= .own 0 3 0 l.length/\G=[.arr 3 (l.map QUE)]:=by
 have key:aW Tryz.prog 116 [.sl false 3 (l.map QUE)] [] fun y G=>(l=[]/\y= .aD/\G=[])∨(y= .own 1 3 0 l.length/\G=[.dead,.arr 3 (l.map QUE)]):=by
  refine aK aWH (by simp) ?_
  unfold aPW
  simp -implicitDefEqProofs(disch:=first|decide|omega)only[↓aA,aC,aB,simprocAttr]
  exact ⟨fun e=>List.map_eq_nil_iff.1 e,by omega,by omega⟩
 refine key.sub ?_
 rintro y G (⟨rfl,rfl,rfl⟩|⟨rfl,rfl⟩)
 · refine ⟨_,_,?_,rfl,rfl⟩
   (refine Sub.of0 [none] rfl ?_ rfl ?_<;>repeat' first|trivial|rfl|exact .inl rfl|exact .inr ⟨rfl,_,_,rfl⟩|(simp;done)|(simp;omega)|refine And.intro ?_ ?_)
 · refine ⟨_,_,?_,rfl,rfl⟩
   (refine Sub.of0 [some 1] rfl ?_ rfl ?_<;>repeat' first|trivial|rfl|exact .inl rfl|exact .inr ⟨rfl,_,_,rfl⟩|(simp;done)|(simp;omega)|refine And.intro ?_ ?_)
theorem aXe (l:List (Node)) (hl:l.length<=2^36):aW Tryz.prog 118 [.sl false 8 (l.map bO)] [] fun y G=>y= .own 0 8 0 l.length/\G=[.arr 8 (l.map bO)]:=by
 have key:aW Tryz.prog 118 [.sl false 8 (l.map bO)] [] fun y G=>(l=[]/\y= .aD/\G=[])∨(y= .own 1 8 0 l.length/\G=[.dead,.arr 8 (l.map bO)]):=by
  refine aK aWF (by simp) ?_
  unfold aPU
  simp -implicitDefEqProofs(disch:=first|decide|omega)only[↓aA,aC,aB,simprocAttr]
  exact ⟨fun e=>List.map_eq_nil_iff.1 e,by omega,by omega⟩
 refine key.sub ?_
 rintro y G (⟨rfl,rfl,rfl⟩|⟨rfl,rfl⟩)
 · refine ⟨_,_,?_,rfl,rfl⟩
   (refine Sub.of0 [none] rfl ?_ rfl ?_<;>repeat' first|trivial|rfl|exact .inl rfl|exact .inr ⟨rfl,_,_,rfl⟩|(simp;done)|(simp;omega)|refine And.intro ?_ ?_)
 · refine ⟨_,_,?_,rfl,rfl⟩
   (refine Sub.of0 [some 1] rfl ?_ rfl ?_<;>repeat' first|trivial|rfl|exact .inl rfl|exact .inr ⟨rfl,_,_,rfl⟩|(simp;done)|(simp;omega)|refine And.intro ?_ ?_)
theorem aXb (l:List (App)) (hl:l.length<=2^36):aW Tryz.prog 122 [.sl false 14 (l.map APP)] [] fun y G=>y= .own 0 14 0 l.length/\G=[.arr 14 (l.map APP)]:=by
 have key:aW Tryz.prog 122 [.sl false 14 (l.map APP)] [] fun y G=>(l=[]/\y= .aD/\G=[])∨(y= .own 1 14 0 l.length/\G=[.dead,.arr 14 (l.map APP)]):=by
  refine aK aWB (by simp) ?_
  unfold aPQ
  simp -implicitDefEqProofs(disch:=first|decide|omega)only[↓aA,aC,aB,simprocAttr]
  exact ⟨fun e=>List.map_eq_nil_iff.1 e,by omega,by omega⟩
 refine key.sub ?_
 rintro y G (⟨rfl,rfl,rfl⟩|⟨rfl,rfl⟩)
 · refine ⟨_,_,?_,rfl,rfl⟩
   (refine Sub.of0 [none] rfl ?_ rfl ?_<;>repeat' first|trivial|rfl|exact .inl rfl|exact .inr ⟨rfl,_,_,rfl⟩|(simp;done)|(simp;omega)|refine And.intro ?_ ?_)
 · refine ⟨_,_,?_,rfl,rfl⟩
   (refine Sub.of0 [some 1] rfl ?_ rfl ?_<;>repeat' first|trivial|rfl|exact .inl rfl|exact .inr ⟨rfl,_,_,rfl⟩|(simp;done)|(simp;omega)|refine And.intro ?_ ?_)
theorem oV (l:List Int) (hl:l.length<=2^40):aT Tryz.prog 124 [.sl false 1 (l.map I64)] (.sl false 1 (l.map I64)):=by
 refine aT.wk3 (aK aWz (by simp) ?_)
 unfold aPO
 simp -implicitDefEqProofs(disch:=first|decide|omega)only[↓aA,aC,aB,simprocAttr]
 have e:(l.map I64++(List.replicate l.length (AV.int .i64 0)).drop l.length).take l.length=l.map I64:=List.take_left' (by simp)
 rw [e]
 exact ⟨by omega,by omega,by omega,by omega,.inl (.inl (.inl rfl))⟩
structure NOk (s:Sta):Prop where
 c0:CT s.labels s.qs
 n:s.nodes.length<=2^36
 a:s.apps.length<=2^36
 at_:∀ a∈s.apps,AT a
 c_:s.conts.length<=2^36
 s_:s.slots.length<=2^36
 p:s.plans.length<=2^36
def NL:List AV:=[.aD,.aD,.aD,.aD,.aD,.aD,.aD,.int .i64 0,.int .i64 0,.int .i64 0]
def owN (s:Sta):List AV:=[.sl false 1 (s.labels.map .str),.own 0 3 0 s.qs.length,.own 1 8 0 s.nodes.length,.own 2 14 0 s.apps.length,.sl false 9 (s.conts.map bY),.sl false 3 (s.slots.map gW),.sl false 6 (s.plans.map eD),.int .i64 s.now,.int .i64 s.ep,.int .i64 s.sq]
set_option maxHeartbeats 16000000 in
theorem aMo (s:Sta) (h:NOk s):aW Tryz.prog 59 [.agg (stC s)] [] fun y G=>y= .agg (owN s)/\G=[.arr 3 (s.qs.map QUE),.arr 8 (s.nodes.map bO),.arr 14 (s.apps.map APP)]:=by
 have key:aW Tryz.prog 59 [.agg (stC s)] [] fun y G=>y= .agg [.sl false 1 (s.labels.map .str),.own 2 3 0 s.qs.length,.own 3 8 0 s.nodes.length,.own 4 14 0 s.apps.length,.sl false 9 (s.conts.map bY),.sl false 3 (s.slots.map gW),.sl false 6 (s.plans.map eD),.int .i64 s.now,.int .i64 s.ep,.int .i64 s.sq]/\∃ G1 G2,G=G1 :: G2 :: [.arr 3 (s.qs.map QUE),.arr 8 (s.nodes.map bO),.arr 14 (s.apps.map APP)]:=by
  refine aO aVj (by simp) ?_
  obtain ⟨ls,qs,nodes,apps,conts,slots,plans,now,ep,sq⟩:=s
  obtain ⟨hct,hn,ha,haa,hc,hs,hp⟩:=h
  simp only at hct hn ha haa hc hs hp
  have hl3:=hct.l3
  have hq3:=hct.q3
  have hqr:=hct.qr
  unfold aXw stC
  simp -implicitDefEqProofs(disch:=first|decide|omega)only[↓aA,aC,aB,simprocAttr]
  unfold aJk
  simp -implicitDefEqProofs(disch:=first|decide|omega)only[↓aA,aC,aB,simprocAttr]
  refine bP (aXh ls (by omega)) rfl rfl ?_
  simp -implicitDefEqProofs(disch:=first|decide|omega)only[↓aA,aC,aB,simprocAttr]
  refine nI (aXg qs (by omega)) rfl rfl ?_
  rintro y G ⟨rfl,rfl⟩
  simp -implicitDefEqProofs(disch:=first|decide|omega)only[↓aA,aC,aB,simprocAttr,AV.ren,AO.ren,up]
  unfold aJl
  simp -implicitDefEqProofs(disch:=first|decide|omega)only[↓aA,aC,aB,simprocAttr]
  refine aF (σ:=Nat) (fun i=>⟨[(1,.ref 0 0 0),(2,.ref 1 0 0),(21,.own 2 3 0 qs.length),(22,.int .i64 (qs.length:Int)),(23,.int .i64 (i:Int))],[.box [.sl false 1 (ls.map .str),.own 2 3 0 qs.length,.sl false 8 (nodes.map bO),.sl false 14 (apps.map APP),.sl false 9 (conts.map bY),.sl false 3 (slots.map gW),.sl false 6 (plans.map eD),.int .i64 now,.int .i64 ep,.int .i64 sq],.box NL,.arr 3 (qs.map QUE)]⟩) (fun i=>i<=qs.length) (fun i=>qs.length-i) 0 (.inl rfl) (by omega) ?_
  intro i hi
  unfold aJi
  by_cases hil:i<qs.length
  · have hg:qs.getD i default=qs[i]:=by simp [hil]
    have hx:=(hqr _ (List.getElem_mem hil)).caps
    have hset:qs.set i { qs[i] with caps:=qs[i].caps }=qs:=List.set_getElem_self hil
    simp -implicitDefEqProofs(disch:=first|decide|omega)only[↓aA,aC,aB,simprocAttr,bW,hg,List.append_nil]
    refine ⟨by omega,by omega,?_⟩
    repeat' first
     | omega
     | (refine bP (aXf qs[i].caps (by omega)) rfl rfl ?_;simp -implicitDefEqProofs(disch:=first|decide|omega)only[↓aA,aC,aB,simprocAttr,bW,hg,hset])
     | exact ⟨i+1,(by (refine Sub.of0 [some 0,some 1,some 2] rfl ?_ rfl ?_<;>repeat' first|trivial|rfl|exact .inl rfl|exact .inr ⟨rfl,_,_,rfl⟩|(simp;done)|(simp;omega)|refine And.intro ?_ ?_)),by omega,by omega⟩
     | apply And.intro
  have:i=qs.length:=by omega
  subst this
  simp -implicitDefEqProofs(disch:=first|decide|omega)only[↓aA,aC,aB,simprocAttr]
  unfold aB3
  refine aS1 (fun s'=>s'=⟨[(1,.ref 0 0 0),(2,.ref 1 0 0)],[.box [.sl false 1 (ls.map .str),.own 2 3 0 qs.length,.own 3 8 0 nodes.length,.sl false 14 (apps.map APP),.sl false 9 (conts.map bY),.sl false 3 (slots.map gW),.sl false 6 (plans.map eD),.int .i64 now,.int .i64 ep,.int .i64 sq],.box NL,.arr 3 (qs.map QUE),.arr 8 (nodes.map bO)]⟩) ?_ ?_
  · simp -implicitDefEqProofs(disch:=first|decide|omega)only[↓aA,aC,aB,simprocAttr]
    repeat' first
     | (refine aE (aI.of (aM:=false) (aXd conts (by omega)) (.refl rfl) rfl (by simp)) ?_;simp -implicitDefEqProofs(disch:=first|decide|omega)only[↓aA,aC,aB,simprocAttr])
     | (refine aE (aI.of (aM:=false) (aXc slots (by omega)) (.refl rfl) rfl (by simp)) ?_;simp -implicitDefEqProofs(disch:=first|decide|omega)only[↓aA,aC,aB,simprocAttr])
     | (refine aE (aI.of (aM:=false) (aOf plans (by omega)) (.refl rfl) rfl (by simp)) ?_;simp -implicitDefEqProofs(disch:=first|decide|omega)only[↓aA,aC,aB,simprocAttr])
     | (refine bP (aOf plans (by omega)) rfl rfl ?_;simp -implicitDefEqProofs(disch:=first|decide|omega)only[↓aA,aC,aB,simprocAttr])
     | (refine nI (aXe nodes hn) rfl rfl ?_;rintro y G ⟨rfl,rfl⟩;simp -implicitDefEqProofs(disch:=first|decide|omega)only[↓aA,aC,aB,simprocAttr,AV.ren,AO.ren,up])
     | apply And.intro
  rintro s' rfl
  unfold aB2
  simp -implicitDefEqProofs(disch:=first|decide|omega)only[↓aA,aC,aB,simprocAttr]
  refine nI (aXb apps ha) rfl rfl ?_
  rintro y G ⟨rfl,rfl⟩
  simp -implicitDefEqProofs(disch:=first|decide|omega)only[↓aA,aC,aB,simprocAttr,AV.ren,AO.ren,up]
  unfold aJm
  simp -implicitDefEqProofs(disch:=first|decide|omega)only[↓aA,aC,aB,simprocAttr]
  refine aF (σ:=Nat) (fun i=>⟨[(1,.ref 0 0 0),(2,.ref 1 0 0),(59,.own 4 14 0 apps.length),(60,.int .i64 (apps.length:Int)),(61,.int .i64 (i:Int))],[.box [.sl false 1 (ls.map .str),.own 2 3 0 qs.length,.own 3 8 0 nodes.length,.own 4 14 0 apps.length,.sl false 9 (conts.map bY),.sl false 3 (slots.map gW),.sl false 6 (plans.map eD),.int .i64 now,.int .i64 ep,.int .i64 sq],.box NL,.arr 3 (qs.map QUE),.arr 8 (nodes.map bO),.arr 14 (apps.map APP)]⟩) (fun i=>i<=apps.length) (fun i=>apps.length-i) 0 (.inl rfl) (by omega) ?_
  intro i hi
  unfold aJj
  by_cases hil:i<apps.length
  · have hg:apps.getD i default=apps[i]:=by simp [hil]
    have hx:=haa _ (List.getElem_mem hil)
    have hset:apps.set i apps[i]=apps:=List.set_getElem_self hil
    have b1:=hx.asks;have b2:=hx.gl;have b3:=hx.kl;have b4:=hx.tl;have b5:=hx.ll
    unfold wX at b2 b3 b4 b5
    simp -implicitDefEqProofs(disch:=first|decide|omega)only[↓aA,aC,aB,simprocAttr,a9,hg,List.append_nil]
    repeat refine And.intro (by omega) ?_
    refine bP (aXa apps[i].asks (by omega)) rfl rfl ?_
    simp -implicitDefEqProofs(disch:=first|decide|omega)only[↓aA,aC,aB,simprocAttr,a9,hg]
    refine bP (oV apps[i].grants (by omega)) rfl rfl ?_
    simp -implicitDefEqProofs(disch:=first|decide|omega)only[↓aA,aC,aB,simprocAttr,a9,hg]
    refine bP (oV apps[i].kills (by omega)) rfl rfl ?_
    simp -implicitDefEqProofs(disch:=first|decide|omega)only[↓aA,aC,aB,simprocAttr,a9,hg]
    refine bP (oV apps[i].told (by omega)) rfl rfl ?_
    simp -implicitDefEqProofs(disch:=first|decide|omega)only[↓aA,aC,aB,simprocAttr,a9,hg]
    refine bP (oV apps[i].lost (by omega)) rfl rfl ?_
    simp -implicitDefEqProofs(disch:=first|decide|omega)only[↓aA,aC,aB,simprocAttr,a9,hg,hset,List.append_nil]
    repeat refine And.intro (by omega) ?_
    refine ⟨i+1,?_,by omega,by omega⟩
    (refine Sub.of0 [some 0,some 1,some 2,some 3,some 4] rfl ?_ rfl ?_<;>repeat' first|trivial|rfl|exact .inl rfl|exact .inr ⟨rfl,_,_,rfl⟩|(simp;done)|(simp;omega)|refine And.intro ?_ ?_)
  · have:i=apps.length:=by omega
    subst this
    simp -implicitDefEqProofs(disch:=first|decide|omega)only[↓aA,aC,aB,simprocAttr]
    unfold NL
    simp -implicitDefEqProofs(disch:=first|decide|omega)only[↓aA,aC,aB,simprocAttr]
    exact ⟨_,_,rfl⟩
 refine key.sub ?_
 rintro y G ⟨rfl,G1,G2,rfl⟩
 refine ⟨_,_,?_,rfl,rfl⟩
 unfold owN
 (refine Sub.of0 [some 2,some 3,some 4] rfl ?_ rfl ?_<;>repeat' first|trivial|rfl|exact .inl rfl|exact .inr ⟨rfl,_,_,rfl⟩|(simp;done)|(simp;omega)|refine And.intro ?_ ?_)
def uK {α:Type} (p:α->Bool) (l:List α):Int:=if l.any p then (l.findIdx p:Nat) else -1
theorem aSq {α:Type} {p:α->Bool} {l:List α} {i:Nat} (hi:i<l.length) (hn:∀ j,(h:j<i)->p (l[j]'(by omega))=false) (hp:p (l[i]'hi)=true):uK p l=(i:Int):=by
 unfold uK
 have:l.any p=true:=List.any_eq_true.2 ⟨_,List.getElem_mem hi,hp⟩
 rw [if_pos this]
 congr 1
 exact (List.findIdx_eq hi).2 ⟨hp,fun j hj=>hn j hj⟩
theorem aSp {α:Type} {p:α->Bool} {l:List α} (hn:∀ j,(h:j<l.length)->p l[j]=false):uK p l= -1:=by
 unfold uK
 have:l.any p=false:=by
  rw [List.any_eq_false]
  intro x hx
  obtain ⟨j,hj,rfl⟩:=List.getElem_of_mem hx
  rw [hn j hj]
  simp
 rw [this]
 rfl
theorem yU {α:Type} (p:α->Bool) (l:List α):(uK p l= -1/\l.find? p=none)∨∃ i:Nat,∃ h:i<l.length,uK p l=(i:Int)/\p l[i]=true/\l.find? p=some l[i]/\∀ j,(hj:j<i)->p (l[j]'(by omega))=false:=by
 unfold uK
 cases h:l.any p
 · rw [List.any_eq_false] at h
   exact .inl ⟨rfl,List.find?_eq_none.2 h⟩
 · have hi:l.findIdx p<l.length:=by
    rw [List.findIdx_lt_length]
    obtain ⟨x,hx,hp⟩:=List.any_eq_true.1 h
    exact ⟨x,hx,hp⟩
   have hn:∀ j,(hj:j<l.findIdx p)->p (l[j]'(by omega))=false:=fun j hj=>by
    have:=List.not_of_lt_findIdx hj
    simpa using this
   have hp:p l[l.findIdx p]=true:=List.findIdx_getElem (w:=hi)
   refine .inr ⟨l.findIdx p,hi,rfl,hp,?_,hn⟩
   exact List.find?_eq_some_iff_getElem.2 ⟨hp,l.findIdx p,hi,rfl,fun j hj=>by rw [hn j hj];rfl⟩
theorem aIi (id:Int) (n:Node):aT Tryz.prog 126 [.int .i64 id,bO n] (.bool (n.id==id)):=by
 refine aK aWx (by simp) ?_
 unfold aPM
 simp -implicitDefEqProofs(disch:=first|decide|omega)only[↓aA,aC,aB,simprocAttr,aN]
def idP (p:Int) (a:Node):Bool:=a.id==p
set_option maxHeartbeats 1000000 in
theorem aIn (t:Bool) (p:Int) (l:List Node) (hl:l.length<2^63):aT Tryz.prog 125 [.sl t 8 (l.map bO),.fn (.func 126) [.int .i64 p] []] (.int .i64 (uK (idP p) l)):=by
 refine aK aWy (by simp) ?_
 unfold aPN
 simp -implicitDefEqProofs(disch:=first|decide|omega)only[↓aA,aC,aB,simprocAttr]
 unfold aEm
 simp -implicitDefEqProofs(disch:=first|decide|omega)only[↓aA,aC,aB,simprocAttr]
 refine aF (σ:=Nat) (fun i=>⟨[(0,.sl t 8 (l.map bO)),(1,.fn (.func 126) [.int .i64 p] []),(7,.int .i64 (l.length:Int)),(8,.int .i64 (i:Int))],[]⟩)
  (fun i=>i<=l.length/\∀ j,(h:j<i)->(h2:j<l.length)->idP p l[j]=false) (fun i=>l.length-i) 0 (.inl rfl) ⟨by omega,fun j h=>by omega⟩ ?_
 rintro i ⟨hii,hn⟩
 unfold aEl
 by_cases hil:i<l.length
 · have hg:l.getD i default=l[i]:=by simp [hil]
   simp -implicitDefEqProofs(disch:=first|decide|omega)only[↓aA,aC,aB,simprocAttr,aN]
   refine ⟨by omega,by omega,?_⟩
   refine aE (aI.of (aM:=false) (aIi p _) (.refl rfl) rfl (by simp)) ?_
   rw [hg]
   cases hp:idP p l[i]
   · have hp':(l[i].id==p)=false:=hp
     rw [hp']
     simp -implicitDefEqProofs(disch:=first|decide|omega)only[↓aA,aC,aB,simprocAttr]
     refine ⟨i+1,.inl rfl,⟨by omega,fun j h h2=>?_⟩,by omega⟩
     by_cases hj:j=i
     · subst hj;exact hp
     · exact hn j (by omega) h2
   · have hp':(l[i].id==p)=true:=hp
     rw [hp']
     simp -implicitDefEqProofs(disch:=first|decide|omega)only[↓aA,aC,aB,simprocAttr]
     rw [aSq hil (fun j hj=>hn j hj (by omega)) hp]
 · have:i=l.length:=by omega
   subst this
   simp -implicitDefEqProofs(disch:=first|decide|omega)only[↓aA,aC,aB,simprocAttr]
   rw [aSp fun j hj=>hn j hj hj]
theorem aRl (s:Sta) (hl:s.nodes.length<2^62) (id:Int):aT Tryz.prog 60 [.agg (stC s),.int .i64 id] (.int .i64 (uK (idP id) s.nodes)):=by
 unfold aT
 refine aK aVE (by simp) ?_
 unfold aSQ
 simp -implicitDefEqProofs(disch:=first|decide|omega)only[↓aA,aC,aB,simprocAttr,bB]
 refine nI (aIn false id s.nodes (by omega)) rfl rfl ?_
 rintro y G rfl
 simp -implicitDefEqProofs(disch:=first|decide|omega)only[↓aA,aC,aB,simprocAttr,AV.ren,AO.ren,up]
theorem xV (s:Sta) (hl:s.nodes.length<2^62) (id:Int):aT Tryz.prog 23 [.agg (stC s),.int .i64 id] (dT bO rW (eH id s.nodes)):=by
 have h1:=aRl s hl id
 unfold stC at h1
 unfold aT
 refine aO aVw (by simp) ?_
 unfold aXO dT eH
 simp -implicitDefEqProofs(disch:=first|decide|omega)only[↓aA,aC,aB,simprocAttr,bB]
 refine aE (aI.of (aM:=false) (h1) (.refl rfl) rfl (by simp)) ?_
 rcases yU (idP id) s.nodes with ⟨e1,e2⟩|⟨i,hi,e1,hp,e2,hn⟩
 · have e3:s.nodes.find? (fun a=>a.id==id)=none:=e2
   rw [e1,e3,Option.getD_none,Option.isSome_none]
   simp -implicitDefEqProofs(disch:=first|decide|omega)only[↓aA,aC,aB,simprocAttr,bB,aN]
   rfl
 · have e3:s.nodes.find? (fun a=>a.id==id)=some s.nodes[i]:=e2
   have hg:s.nodes.getD i default=s.nodes[i]:=by simp [hi]
   rw [e1,e3,Option.getD_some,Option.isSome_some]
   simp -implicitDefEqProofs(disch:=first|decide|omega)only[↓aA,aC,aB,simprocAttr,bB,aN,hg]
   repeat' first|omega|rfl|apply And.intro
theorem wK (a b:Int) (ha:0<=a/\a<=2^50) (hb:0<=b/\b<=2^50):aT Tryz.prog 130 [.agg [.int .i64 a,.int .i64 b]] (.bool true):=by
 unfold aT
 refine aK aWw (by simp) ?_
 unfold aPL
 simp -implicitDefEqProofs(disch:=first|decide|omega)only[↓aA,aC,aB,simprocAttr]
theorem aLA (a b:Int) (ha:0<=a/\a<=2^50) (hb:0<=b/\b<=2^50):aT Tryz.prog 131 [.agg [.int .i64 a,.int .i64 b]] (.tup [.agg [.int .i64 a,.int .i64 b],.int .i64 0]):=by
 unfold aT
 refine aO aR4 (by simp) ?_
 unfold aPK
 simp -implicitDefEqProofs(disch:=first|decide|omega)only[↓aA,aC,aB,simprocAttr,bB]
 refine aE (aI.of (aM:=false) (wK a b ha hb) (.refl rfl) rfl (by simp)) ?_
 simp -implicitDefEqProofs(disch:=first|decide|omega)only[↓aA,aC,aB,simprocAttr,bB]
theorem aYi (a b c d:Int) (h:0<=a/\0<=b/\0<=c/\0<=d/\a+c<=2^50/\b+d<=2^50):aT Tryz.prog 67 [.agg [.int .i64 a,.int .i64 b],.agg [.int .i64 c,.int .i64 d]] (.tup [.agg [.int .i64 (a+c),.int .i64 (b+d)],.int .i64 0]):=by
 unfold aT
 refine aO aVh (by simp) ?_
 unfold aXs
 simp -implicitDefEqProofs(disch:=first|decide|omega)only[↓aA,aC,aB,simprocAttr,bB]
 refine aE (aI.of (aM:=false) (wK a b (by omega) (by omega)) (.refl rfl) rfl (by simp)) ?_
 simp -implicitDefEqProofs(disch:=first|decide|omega)only[↓aA,aC,aB,simprocAttr,bB]
 refine aE (aI.of (aM:=false) (wK c d (by omega) (by omega)) (.refl rfl) rfl (by simp)) ?_
 simp -implicitDefEqProofs(disch:=first|decide|omega)only[↓aA,aC,aB,simprocAttr,bB]
 refine aE (aI.of (aM:=false) (aLA (a+c) (b+d) (by omega) (by omega)) (.refl rfl) rfl (by simp)) ?_
 simp -implicitDefEqProofs(disch:=first|decide|omega)only[↓aA,aC,aB,simprocAttr,bB]
theorem xS (s:Sta) (hl:s.conts.length<=2^18) (hc:∀ c∈s.conts,okV c.mem c.cores) (id:Int):aT Tryz.prog 20 [.agg (stC s),.int .i64 id] (.agg [.int .i64 (bR id s.conts).1,.int .i64 (bR id s.conts).2]):=by
 unfold aT
 refine aO aVy (by simp) ?_
 unfold aXQ
 simp -implicitDefEqProofs(disch:=first|decide|omega)only[↓aA,aC,aB,simprocAttr,stC,cA,bU]
 unfold aJS
 simp -implicitDefEqProofs(disch:=first|decide|omega)only[↓aA,aC,aB,simprocAttr]
 refine aF (σ:=Nat) (fun k=>⟨[(1,.int .i64 id),(4,.ref 0 0 0),(5,.ref 1 0 0),(9,.sl false 9 (s.conts.map bY)),(10,.int .i64 (s.conts.length:Int)),(11,.int .i64 (k:Int))],[.box [.int .i64 0,.int .i64 0],.box [.int .i64 (bR id (s.conts.take k)).1,.int .i64 (bR id (s.conts.take k)).2]]⟩) (fun k=>k<=s.conts.length) (fun k=>s.conts.length-k) 0 ?_ (by omega) ?_
 · show Sub _ _ ⟨[(1,.int .i64 id),(4,.ref 0 0 0),(5,.ref 1 0 0),(9,.sl false 9 (s.conts.map bY)),(10,.int .i64 (s.conts.length:Int)),(11,.int .i64 0)],[.box [.int .i64 0,.int .i64 0],.box [.int .i64 0,.int .i64 0]]⟩
   (refine Sub.of0 [some 1,some 2] rfl ?_ rfl ?_<;>repeat' first|trivial|rfl|exact .inl rfl|exact .inr ⟨rfl,_,_,rfl⟩|(simp;done)|(simp;omega)|refine And.intro ?_ ?_)
 rintro k hk
 unfold aJR
 by_cases hki:k<s.conts.length
 · have hg:s.conts.getD k default=s.conts[k]:=by simp [hki]
   have hx:=hc _ (List.getElem_mem hki)
   have hr:=kM (id:=id) (l:=s.conts.take k) fun c h=>hc c (List.mem_of_mem_take h)
   rw [List.length_take] at hr
   have e:s.conts.take (k+1)=s.conts.take k++[s.conts[k]]:=by simp
   have hu:=pH (id:=id) (l:=s.conts.take k) (c:=s.conts[k])
   rw [<- e] at hu
   unfold okV at hx
   by_cases hp:s.conts[k].node=id
   · rw [if_pos hp] at hu
     simp -implicitDefEqProofs(disch:=first|decide|omega)only[↓aA,aC,aB,simprocAttr,bB,aY,hg,hp]
     repeat refine And.intro (by omega) ?_
     refine aE (aI.of (aM:=false) (aYi _ _ _ _ (by omega)) (.refl rfl) rfl (by simp)) ?_
     simp -implicitDefEqProofs(disch:=first|decide|omega)only[↓aA,aC,aB,simprocAttr,hu]
     repeat refine And.intro (by omega) ?_
     refine ⟨k+1,?_,by omega,by omega⟩
     rw [hu]
     (refine Sub.of0 [some 0,some 1] rfl ?_ rfl ?_<;>repeat' first|trivial|rfl|exact .inl rfl|exact .inr ⟨rfl,_,_,rfl⟩|(simp;done)|(simp;omega)|refine And.intro ?_ ?_)
   · rw [if_neg hp] at hu
     simp -implicitDefEqProofs(disch:=first|decide|omega)only[↓aA,aC,aB,simprocAttr,bB,aY,hg,hp]
     repeat refine And.intro (by omega) ?_
     refine ⟨k+1,?_,by omega,by omega⟩
     rw [hu]
     (refine Sub.of0 [some 0,some 1] rfl ?_ rfl ?_<;>repeat' first|trivial|rfl|exact .inl rfl|exact .inr ⟨rfl,_,_,rfl⟩|(simp;done)|(simp;omega)|refine And.intro ?_ ?_)
 · have:k=s.conts.length:=by omega
   subst this
   simp -implicitDefEqProofs(disch:=first|decide|omega)only[↓aA,aC,aB,simprocAttr,stC,List.take_length]
theorem xU (s:Sta) (hl:s.nodes.length<2^62) (hk:s.conts.length<=2^18) (hc:∀ c∈s.conts,okV c.mem c.cores) (hn:∀ n∈s.nodes,0<=n.mem/\n.mem<=2^30/\0<=n.cores/\n.cores<=2^30) (id:Int):aT Tryz.prog 21 [.agg (stC s),.int .i64 id] (.agg [.int .i64 (eY id s).1,.int .i64 (eY id s).2]):=by
 have h1:=xV s hl id
 have h2:=xS s hk hc id
 have hr:=kM (id:=id) hc
 unfold aT
 refine aO aVx (by simp) ?_
 unfold aXP
 unfold stC at h1 h2
 unfold dT at h1
 simp -implicitDefEqProofs(disch:=first|decide|omega)only[↓aA,aC,aB,simprocAttr,stC]
 refine aE (aI.of (aM:=false) (h1) (.refl rfl) rfl (by simp)) ?_
 unfold eY
 cases hf:eH id s.nodes with
 | none =>
   rw [Option.getD_none,Option.isSome_none]
   simp -implicitDefEqProofs(disch:=first|decide|omega)only[↓aA,aC,aB,simprocAttr,bB,aN]
 | some n =>
   have hx:=hn n (gG hf).1
   rw [Option.getD_some,Option.isSome_some]
   cases hu:n.up
   · simp -implicitDefEqProofs(disch:=first|decide|omega)only[↓aA,aC,aB,simprocAttr,bB,aN,hu]
   · simp -implicitDefEqProofs(disch:=first|decide|omega)only[↓aA,aC,aB,simprocAttr,bB,aN,hu]
     refine aE (aI.of (aM:=false) (h2) (.refl rfl) rfl (by simp)) ?_
     simp -implicitDefEqProofs(disch:=first|decide|omega)only[↓aA,aC,aB,simprocAttr,bB,aN,aHZ]
end Go.Proofs.YtakemdamegfcfaaGreat
