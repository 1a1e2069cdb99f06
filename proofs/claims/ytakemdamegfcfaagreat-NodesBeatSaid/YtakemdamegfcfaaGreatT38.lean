/- A part of a proof: what functions of the program compute. No condition. -/
import Derived.Test.YtakemdamegfcfaaGreatT37
import Derived.Test.YtakemdamegfcfaaGreatT6
import Derived.Test.YtakemdamegfcfaaGreatT11
import Derived.Test.YtakemdamegfcfaaGreatT33
import Derived.Test.YtakemdamegfcfaaGreatT14
import Derived.Test.YtakemdamegfcfaaGreatProg
import Derived.KernelRfl
set_option linter.unusedSimpArgs false
set_option linter.unusedVariables false
set_option maxHeartbeats 16000000
set_option maxRecDepth 100000
namespace Go.Proofs.YtakemdamegfcfaaGreat
open Go Go.Ab
theorem aXh (l:List (List UInt8)) (hl:l.length<=2^40):aT Tryz.prog 115 [.sl false 1 (l.map AV.str)] (.sl false 1 (l.map AV.str)):=by
 refine aT.wk3 (aK aWI (by simp) ?_)
 unfold aPX
 simp -implicitDefEqProofs(disch:=first|decide|omega)only[↓aA,aC,aB,simprocAttr]
 refine ⟨fun e=>?_,?_⟩
 · rw [e]
   exact .inl (.inl (.inr ⟨rfl,_,_,rfl⟩))
 · refine ⟨⟨by omega,by omega⟩,?_⟩
   exact .inl (.inl (.inl rfl))
theorem aXf (l:List (Cap)) (hl:l.length<=2^40):aT Tryz.prog 117 [.sl false 2 (l.map CAP)] (.sl false 2 (l.map CAP)):=by
 refine aT.wk3 (aK aWG (by simp) ?_)
 unfold aPV
 simp -implicitDefEqProofs(disch:=first|decide|omega)only[↓aA,aC,aB,simprocAttr]
 refine ⟨fun e=>?_,?_⟩
 · rw [e]
   exact .inl (.inl (.inr ⟨rfl,_,_,rfl⟩))
 · refine ⟨⟨by omega,by omega⟩,?_⟩
   exact .inl (.inl (.inl rfl))
theorem aXd (l:List (bD)) (hl:l.length<=2^40):aT Tryz.prog 119 [.sl false 9 (l.map bY)] (.sl false 9 (l.map bY)):=by
 refine aT.wk3 (aK aWE (by simp) ?_)
 unfold aPT
 simp -implicitDefEqProofs(disch:=first|decide|omega)only[↓aA,aC,aB,simprocAttr]
 refine ⟨fun e=>?_,?_⟩
 · rw [e]
   exact .inl (.inl (.inr ⟨rfl,_,_,rfl⟩))
 · refine ⟨⟨by omega,by omega⟩,?_⟩
   exact .inl (.inl (.inl rfl))
theorem aXc (l:List (dY)) (hl:l.length<=2^40):aT Tryz.prog 120 [.sl false 3 (l.map gW)] (.sl false 3 (l.map gW)):=by
 refine aT.wk3 (aK aWD (by simp) ?_)
 unfold aPS
 simp -implicitDefEqProofs(disch:=first|decide|omega)only[↓aA,aC,aB,simprocAttr]
 refine ⟨fun e=>?_,?_⟩
 · rw [e]
   exact .inl (.inl (.inr ⟨rfl,_,_,rfl⟩))
 · refine ⟨⟨by omega,by omega⟩,?_⟩
   exact .inl (.inl (.inl rfl))
theorem aOf (l:List (dR)) (hl:l.length<=2^40):aT Tryz.prog 121 [.sl false 6 (l.map eD)] (.sl false 6 (l.map eD)):=by
 refine aT.wk3 (aK aWC (by simp) ?_)
 unfold aPR
 simp -implicitDefEqProofs(disch:=first|decide|omega)only[↓aA,aC,aB,simprocAttr]
 refine ⟨fun e=>?_,?_⟩
 · rw [e]
   exact .inl (.inl (.inr ⟨rfl,_,_,rfl⟩))
 · refine ⟨⟨by omega,by omega⟩,?_⟩
   exact .inl (.inl (.inl rfl))
theorem aXa (l:List (Ask)) (hl:l.length<=2^40):aT Tryz.prog 123 [.sl false 8 (l.map ASK)] (.sl false 8 (l.map ASK)):=by
 refine aT.wk3 (aK aWA (by simp) ?_)
 unfold aPP
 simp -implicitDefEqProofs(disch:=first|decide|omega)only[↓aA,aC,aB,simprocAttr]
 refine ⟨fun e=>?_,?_⟩
 · rw [e]
   exact .inl (.inl (.inr ⟨rfl,_,_,rfl⟩))
 · refine ⟨⟨by omega,by omega⟩,?_⟩
   exact .inl (.inl (.inl rfl))
theorem aXg (l:List (Queue)) (hl:l.length<=2^36):aW Tryz.prog 116 [.sl false 3 (l.map QUE)] [] fun y G=>y= .own 0 3 0 l.length/\G=[.arr 3 (l.map QUE)]:=by
 have key:aW Tryz.prog 116 [.sl false 3 (l.map QUE)] [] fun y G=>(l=[]/\y= .aD/\G=[])∨(y= .own 1 3 0 l.length/\G=[.dead,.arr 3 (l.map QUE)]):=by
  refine aK aWH (by simp) ?_
  unfold aPW
  simp -implicitDefEqProofs(disch:=first|decide|omega)only[↓aA,aC,aB,simprocAttr]
  exact ⟨fun e=>List.map_eq_nil_iff.1 e,by omega,by omega⟩
 refine key.sub ?_
 rintro y G (⟨rfl,rfl,rfl⟩|⟨rfl,rfl⟩)
 · refine ⟨_,_,?_,rfl,rfl⟩
   exact Sub.ofS [none]
 · refine ⟨_,_,?_,rfl,rfl⟩
   exact Sub.ofS [some 1]
theorem aXe (l:List (Node)) (hl:l.length<=2^36):aW Tryz.prog 118 [.sl false 8 (l.map bO)] [] fun y G=>y= .own 0 8 0 l.length/\G=[.arr 8 (l.map bO)]:=by
 have key:aW Tryz.prog 118 [.sl false 8 (l.map bO)] [] fun y G=>(l=[]/\y= .aD/\G=[])∨(y= .own 1 8 0 l.length/\G=[.dead,.arr 8 (l.map bO)]):=by
  refine aK aWF (by simp) ?_
  unfold aPU
  simp -implicitDefEqProofs(disch:=first|decide|omega)only[↓aA,aC,aB,simprocAttr]
  exact ⟨fun e=>List.map_eq_nil_iff.1 e,by omega,by omega⟩
 refine key.sub ?_
 rintro y G (⟨rfl,rfl,rfl⟩|⟨rfl,rfl⟩)
 · refine ⟨_,_,?_,rfl,rfl⟩
   exact Sub.ofS [none]
 · refine ⟨_,_,?_,rfl,rfl⟩
   exact Sub.ofS [some 1]
theorem aXb (l:List (App)) (hl:l.length<=2^36):aW Tryz.prog 122 [.sl false 14 (l.map APP)] [] fun y G=>y= .own 0 14 0 l.length/\G=[.arr 14 (l.map APP)]:=by
 have key:aW Tryz.prog 122 [.sl false 14 (l.map APP)] [] fun y G=>(l=[]/\y= .aD/\G=[])∨(y= .own 1 14 0 l.length/\G=[.dead,.arr 14 (l.map APP)]):=by
  refine aK aWB (by simp) ?_
  unfold aPQ
  simp -implicitDefEqProofs(disch:=first|decide|omega)only[↓aA,aC,aB,simprocAttr]
  exact ⟨fun e=>List.map_eq_nil_iff.1 e,by omega,by omega⟩
 refine key.sub ?_
 rintro y G (⟨rfl,rfl,rfl⟩|⟨rfl,rfl⟩)
 · refine ⟨_,_,?_,rfl,rfl⟩
   exact Sub.ofS [none]
 · refine ⟨_,_,?_,rfl,rfl⟩
   exact Sub.ofS [some 1]
theorem oV (l:List Int) (hl:l.length<=2^40):aT Tryz.prog 124 [.sl false 1 (l.map I64)] (.sl false 1 (l.map I64)):=by
 refine aT.wk3 (aK aWz (by simp) ?_)
 unfold aPO
 simp -implicitDefEqProofs(disch:=first|decide|omega)only[↓aA,aC,aB,simprocAttr]
 have e:(l.map I64++(List.replicate l.length (AV.int .i64 0)).drop l.length).take l.length=l.map I64:=List.take_left' (by simp)
 rw [e]
 exact ⟨by omega,by omega,by omega,by omega,.inl (.inl (.inl rfl))⟩
structure NOk (s:Sta):Prop where
 c0:CT s.labels s.qs
 n:s.nodes.length<=2^36
 a:s.apps.length<=2^36
 at_:∀ a∈s.apps,AT a
 c_:s.conts.length<=2^36
 s_:s.slots.length<=2^36
 p:s.plans.length<=2^36
def NL:List AV:=[.aD,.aD,.aD,.aD,.aD,.aD,.aD,.int .i64 0,.int .i64 0,.int .i64 0]
def owN (s:Sta):List AV:=[.sl false 1 (s.labels.map .str),.own 0 3 0 s.qs.length,.own 1 8 0 s.nodes.length,.own 2 14 0 s.apps.length,.sl false 9 (s.conts.map bY),.sl false 3 (s.slots.map gW),.sl false 6 (s.plans.map eD),.int .i64 s.now,.int .i64 s.ep,.int .i64 s.sq]
set_option maxHeartbeats 16000000 in
theorem aMo (s:Sta) (h:NOk s):aW Tryz.prog 59 [.agg (stC s)] [] fun y G=>y= .agg (owN s)/\G=[.arr 3 (s.qs.map QUE),.arr 8 (s.nodes.map bO),.arr 14 (s.apps.map APP)]:=by
 have key:aW Tryz.prog 59 [.agg (stC s)] [] fun y G=>y= .agg [.sl false 1 (s.labels.map .str),.own 2 3 0 s.qs.length,.own 3 8 0 s.nodes.length,.own 4 14 0 s.apps.length,.sl false 9 (s.conts.map bY),.sl false 3 (s.slots.map gW),.sl false 6 (s.plans.map eD),.int .i64 s.now,.int .i64 s.ep,.int .i64 s.sq]/\∃ G1 G2,G=G1 :: G2 :: [.arr 3 (s.qs.map QUE),.arr 8 (s.nodes.map bO),.arr 14 (s.apps.map APP)]:=by
  refine aO aVj (by simp) ?_
  obtain ⟨ls,qs,nodes,apps,conts,slots,plans,now,ep,sq⟩:=s
  obtain ⟨hct,hn,ha,haa,hc,hs,hp⟩:=h
  simp only at hct hn ha haa hc hs hp
  have hl3:=hct.l3
  have hq3:=hct.q3
  have hqr:=hct.qr
  unfold aXw stC
  simp -implicitDefEqProofs(disch:=first|decide|omega)only[↓aA,aC,aB,simprocAttr]
  unfold aJk
  simp -implicitDefEqProofs(disch:=first|decide|omega)only[↓aA,aC,aB,simprocAttr]
  refine bP (aXh ls (by omega)) rfl rfl ?_
  simp -implicitDefEqProofs(disch:=first|decide|omega)only[↓aA,aC,aB,simprocAttr]
  refine nI (aXg qs (by omega)) rfl rfl ?_
  rintro y G ⟨rfl,rfl⟩
  simp -implicitDefEqProofs(disch:=first|decide|omega)only[↓aA,aC,aB,simprocAttr,AV.ren,AO.ren,up]
  unfold aJl
  simp -implicitDefEqProofs(disch:=first|decide|omega)only[↓aA,aC,aB,simprocAttr]
  refine aF (σ:=Nat) (fun i=>⟨[(1,.ref 0 0 0),(2,.ref 1 0 0),(21,.own 2 3 0 qs.length),(22,.int .i64 (qs.length:Int)),(23,.int .i64 (i:Int))],[.box [.sl false 1 (ls.map .str),.own 2 3 0 qs.length,.sl false 8 (nodes.map bO),.sl false 14 (apps.map APP),.sl false 9 (conts.map bY),.sl false 3 (slots.map gW),.sl false 6 (plans.map eD),.int .i64 now,.int .i64 ep,.int .i64 sq],.box NL,.arr 3 (qs.map QUE)]⟩) (fun i=>i<=qs.length) (fun i=>qs.length-i) 0 (.inl rfl) (by omega) ?_
  intro i hi
  unfold aJi
  by_cases hil:i<qs.length
  · have hg:qs.getD i default=qs[i]:=by simp [hil]
    have hx:=(hqr _ (List.getElem_mem hil)).caps
    have hset:qs.set i { qs[i] with caps:=qs[i].caps }=qs:=List.set_getElem_self hil
    simp -implicitDefEqProofs(disch:=first|decide|omega)only[↓aA,aC,aB,simprocAttr,bW,hg,List.append_nil]
    refine ⟨by omega,by omega,?_⟩
    repeat' first
     | omega
     | (refine bP (aXf qs[i].caps (by omega)) rfl rfl ?_;simp -implicitDefEqProofs(disch:=first|decide|omega)only[↓aA,aC,aB,simprocAttr,bW,hg,hset])
     | exact ⟨i+1,(by (refine Sub.of0 [some 0,some 1,some 2] rfl ?_ rfl ?_<;>repeat' first|trivial|rfl|exact .inl rfl|exact .inr ⟨rfl,_,_,rfl⟩|(simp;done)|(simp;omega)|refine And.intro ?_ ?_)),by omega,by omega⟩
     | apply And.intro
  have:i=qs.length:=by omega
  subst this
  simp -implicitDefEqProofs(disch:=first|decide|omega)only[↓aA,aC,aB,simprocAttr]
  unfold aB3
  refine aS1 (fun s'=>s'=⟨[(1,.ref 0 0 0),(2,.ref 1 0 0)],[.box [.sl false 1 (ls.map .str),.own 2 3 0 qs.length,.own 3 8 0 nodes.length,.sl false 14 (apps.map APP),.sl false 9 (conts.map bY),.sl false 3 (slots.map gW),.sl false 6 (plans.map eD),.int .i64 now,.int .i64 ep,.int .i64 sq],.box NL,.arr 3 (qs.map QUE),.arr 8 (nodes.map bO)]⟩) ?_ ?_
  · simp -implicitDefEqProofs(disch:=first|decide|omega)only[↓aA,aC,aB,simprocAttr]
    repeat' first
     | (refine aE (aI.of (aM:=false) (aXd conts (by omega)) (.refl rfl) rfl (by simp)) ?_;simp -implicitDefEqProofs(disch:=first|decide|omega)only[↓aA,aC,aB,simprocAttr])
     | (refine aE (aI.of (aM:=false) (aXc slots (by omega)) (.refl rfl) rfl (by simp)) ?_;simp -implicitDefEqProofs(disch:=first|decide|omega)only[↓aA,aC,aB,simprocAttr])
     | (refine aE (aI.of (aM:=false) (aOf plans (by omega)) (.refl rfl) rfl (by simp)) ?_;simp -implicitDefEqProofs(disch:=first|decide|omega)only[↓aA,aC,aB,simprocAttr])
     | (refine bP (aOf plans (by omega)) rfl rfl ?_;simp -implicitDefEqProofs(disch:=first|decide|omega)only[↓aA,aC,aB,simprocAttr])
     | (refine nI (aXe nodes hn) rfl rfl ?_;rintro y G ⟨rfl,rfl⟩;simp -implicitDefEqProofs(disch:=first|decide|omega)only[↓aA,aC,aB,simprocAttr,AV.ren,AO.ren,up])
     | apply And.intro
  rintro s' rfl
  unfold aB2
  simp -implicitDefEqProofs(disch:=first|decide|omega)only[↓aA,aC,aB,simprocAttr]
  refine nI (aXb apps ha) rfl rfl ?_
  rintro y G ⟨rfl,rfl⟩
  simp -implicitDefEqProofs(disch:=first|decide|omega)only[↓aA,aC,aB,simprocAttr,AV.ren,AO.ren,up]
  unfold aJm
  simp -implicitDefEqProofs(disch:=first|decide|omega)only[↓aA,aC,aB,simprocAttr]
  refine aF (σ:=Nat) (fun i=>⟨[(1,.ref 0 0 0),(2,.ref 1 0 0),(59,.own 4 14 0 apps.length),(60,.int .i64 (apps.length:Int)),(61,.int .i64 (i:Int))],[.box [.sl false 1 (ls.map .str),.own 2 3 0 qs.length,.own 3 8 0 nodes.length,.own 4 14 0 apps.length,.sl false 9 (conts.map bY),.sl false 3 (slots.map gW),.sl false 6 (plans.map eD),.int .i64 now,.int .i64 ep,.int .i64 sq],.box NL,.arr 3 (qs.map QUE),.arr 8 (nodes.map bO),.arr 14 (apps.map APP)]⟩) (fun i=>i<=apps.length) (fun i=>apps.length-i) 0 (.inl rfl) (by omega) ?_
  intro i hi
  unfold aJj
  by_cases hil:i<apps.length
  · have hg:apps.getD i default=apps[i]:=by simp [hil]
    have hx:=haa _ (List.getElem_mem hil)
    have hset:apps.set i apps[i]=apps:=List.set_getElem_self hil
    have b1:=hx.asks;have b2:=hx.gl;have b3:=hx.kl;have b4:=hx.tl;have b5:=hx.ll
    unfold wX at b2 b3 b4 b5
    simp -implicitDefEqProofs(disch:=first|decide|omega)only[↓aA,aC,aB,simprocAttr,a9,hg,List.append_nil]
    repeat refine And.intro (by omega) ?_
    refine bP (aXa apps[i].asks (by omega)) rfl rfl ?_
    simp -implicitDefEqProofs(disch:=first|decide|omega)only[↓aA,aC,aB,simprocAttr,a9,hg]
    refine bP (oV apps[i].grants (by omega)) rfl rfl ?_
    simp -implicitDefEqProofs(disch:=first|decide|omega)only[↓aA,aC,aB,simprocAttr,a9,hg]
    refine bP (oV apps[i].kills (by omega)) rfl rfl ?_
    simp -implicitDefEqProofs(disch:=first|decide|omega)only[↓aA,aC,aB,simprocAttr,a9,hg]
    refine bP (oV apps[i].told (by omega)) rfl rfl ?_
    simp -implicitDefEqProofs(disch:=first|decide|omega)only[↓aA,aC,aB,simprocAttr,a9,hg]
    refine bP (oV apps[i].lost (by omega)) rfl rfl ?_
    simp -implicitDefEqProofs(disch:=first|decide|omega)only[↓aA,aC,aB,simprocAttr,a9,hg,hset,List.append_nil]
    repeat refine And.intro (by omega) ?_
    refine ⟨i+1,?_,by omega,by omega⟩
    exact Sub.ofS [some 0,some 1,some 2,some 3,some 4]
  · have:i=apps.length:=by omega
    subst this
    simp -implicitDefEqProofs(disch:=first|decide|omega)only[↓aA,aC,aB,simprocAttr]
    unfold NL
    simp -implicitDefEqProofs(disch:=first|decide|omega)only[↓aA,aC,aB,simprocAttr]
    exact ⟨_,_,rfl⟩
 refine key.sub ?_
 rintro y G ⟨rfl,G1,G2,rfl⟩
 refine ⟨_,_,?_,rfl,rfl⟩
 unfold owN
 exact Sub.ofS [some 2,some 3,some 4]
theorem aSD:CT s4.labels s4.qs:=⟨by decide,by decide,fun x hx=>by rw [List.mem_singleton.1 hx];decide,by decide,by decide,fun q hq=>by rw [List.mem_singleton.1 hq];exact ⟨by decide,by decide⟩⟩
theorem aMq:NOk s4:=⟨aSD,by decide,by decide,(fun a ha=>by cases ha),by decide,by decide,by decide⟩
theorem x8a {P:Program} {e:Operand->AV} {H:List AO} {K:AV->List AO->Prop} {neg:Bool} {ks:List AV} {x y:Operand}:opD P (.seq neg ks x y) e H K=aGO neg ks (e x) (e y) fun y=>K y H:=propext ⟨fun h=>h.2,fun h=>⟨rfl,h⟩⟩
theorem x8b {a:App}:partOf (bI a) 8 1 false= .int .i64 a.seen:=rfl
theorem x8c {a:Node}:partOf (cB a) 5 1 false= .int .i64 a.seen:=rfl
theorem x8d {a:Node} {v:Int}: .int .i64 v :: List.drop 1 (cB a)=cB { a with id:=v }:=rfl
theorem x8e {a:Node} {v:Int}:List.take 1 (cB a)++[.int .i64 v]++List.drop 2 (cB a)=cB { a with label:=v }:=rfl
theorem x8f {a:Node} {v:Int}:List.take 2 (cB a)++[.int .i64 v]++List.drop 3 (cB a)=cB { a with rack:=v }:=rfl
theorem x8g {l:List Node} {i:Nat} (h:i<l.length):(l.map bO).getD i .top=bO l[i]:=by simp [List.getD_eq_getElem?_getD,h]
theorem x8h {l:List Node} {i:Nat} {v:Int}:(l.map bO).set i (dS ((l.map bO).getD i .top) 5 1 [.int .i64 v])=(l.set i { l.getD i default with seen:=v }).map bO:=by
 by_cases h:i<l.length
 · rw [x8g h,List.map_set,List.getD_eq_getElem?_getD,List.getElem?_eq_getElem h];rfl
 · rw [List.set_eq_of_length_le (by simp;omega),List.set_eq_of_length_le (by omega)]
theorem x8i {l:List Node} {i:Nat} {v:Int}:(l.map bO).set i (dS ((l.map bO).getD i .top) 6 1 [.int .i64 v])=(l.set i { l.getD i default with beat:=v }).map bO:=by
 by_cases h:i<l.length
 · rw [x8g h,List.map_set,List.getD_eq_getElem?_getD,List.getElem?_eq_getElem h];rfl
 · rw [List.set_eq_of_length_le (by simp;omega),List.set_eq_of_length_le (by omega)]
set_option linter.defProp false in
def x8:=And.intro @x8a (And.intro @x8b (And.intro @x8c (And.intro @x8d (And.intro @x8e (And.intro @x8f (And.intro @x8h @x8i))))))
abbrev oy (d:Nat) (c:CO):aP:=⟨some d,c,none⟩
abbrev py (d g:Nat) (c:CO):aP:=⟨some d,c,some (g,true)⟩
abbrev qy (d g:Nat) (c:CO):aP:=⟨some d,c,some (g,false)⟩
abbrev ny (c:CO):aP:=⟨none,c,none⟩
abbrev ty (k:Nat):Operand:=.tmp k
abbrev my (k:Nat):CO:=.mv (.tmp k)
def a2b:CC:=(fun (c:CC) (_:((.seq (.seq (.reg [oy 167 (my 10),oy 168 (.fad 6 (ty 2)),oy 169 (.ld 1 false (ty 168)),oy 170 (.lenl (ty 169)),oy 171 (.bin .lss (ty 167) (ty 170))] false [] (some [2,3,5,10,171])) (.cond (ty 171) .skip (.exit 8))) (.seq (.block (some [2,3,5,10]) 9 (.reg [oy 174 (my 5),oy 175 (my 174),py 176 175 (.fad 6 (ty 2)),py 177 175 (.ld 1 false (ty 176)),py 178 175 (my 10),py 179 175 (.iad 6 (ty 177) (ty 178)),py 180 175 (.ld 6 true (ty 179)),py 181 175 (.fad 6 (ty 3)),py 182 175 (.ld 1 false (ty 181)),py 183 175 (my 10),py 184 175 (.iad 6 (ty 182) (ty 183)),py 185 175 (.ld 6 true (ty 184)),py 186 175 (.seq false [(.int .i64 0),(.int .i64 0),(.int .i64 0),(.int .i64 0),(.int .i64 0),(.int .i64 0)] (ty 180) (ty 185)),oy 187 (.pick (ty 175) (ty 186) (.const (.bool false))),oy 5 (my 187)] true [] (some [2,3,5,10]))) (.reg [oy 172 (my 10),oy 173 (.bin .add (ty 172) (.const (.int .i64 1))),oy 10 (my 173)] false [] (some [2,3,5,10])))))=c)=>c) _ (by conv=>lhs;reduce)
def a2g:CC:=(fun (c:CC->CC) (_:(fun a0=>(.block (some [5]) 8 (.loop 0 (some [2,3,5,10]) a0)))=c)=>c) _ (by conv=>lhs;reduce) a2b
def a2a:CC:=(fun (c:CC) (_:((.seq (.seq (.reg [oy 146 (my 9),oy 147 (.fad 5 (ty 2)),oy 148 (.ld 1 false (ty 147)),oy 149 (.lenl (ty 148)),oy 150 (.bin .lss (ty 146) (ty 149))] false [] (some [2,3,5,9,150])) (.cond (ty 150) .skip (.exit 6))) (.seq (.block (some [2,3,5,9]) 7 (.reg [oy 153 (my 5),oy 154 (my 153),py 155 154 (.fad 5 (ty 2)),py 156 154 (.ld 1 false (ty 155)),py 157 154 (my 9),py 158 154 (.iad 3 (ty 156) (ty 157)),py 159 154 (.ld 3 true (ty 158)),py 160 154 (.fad 5 (ty 3)),py 161 154 (.ld 1 false (ty 160)),py 162 154 (my 9),py 163 154 (.iad 3 (ty 161) (ty 162)),py 164 154 (.ld 3 true (ty 163)),py 165 154 (.seq false [(.int .i64 0),(.int .i64 0),(.int .i64 0)] (ty 159) (ty 164)),oy 166 (.pick (ty 154) (ty 165) (.const (.bool false))),oy 5 (my 166)] true [] (some [2,3,5,9]))) (.reg [oy 151 (my 9),oy 152 (.bin .add (ty 151) (.const (.int .i64 1))),oy 9 (my 152)] false [] (some [2,3,5,9])))))=c)=>c) _ (by conv=>lhs;reduce)
def a2f:CC:=(fun (c:CC->CC) (_:(fun a0=>(.block (some [2,3,5]) 6 (.loop 0 (some [2,3,5,9]) a0)))=c)=>c) _ (by conv=>lhs;reduce) a2a
def a19:CC:=(fun (c:CC) (_:((.seq (.seq (.reg [oy 125 (my 8),oy 126 (.fad 4 (ty 2)),oy 127 (.ld 1 false (ty 126)),oy 128 (.lenl (ty 127)),oy 129 (.bin .lss (ty 125) (ty 128))] false [] (some [2,3,5,8,129])) (.cond (ty 129) .skip (.exit 4))) (.seq (.block (some [2,3,5,8]) 5 (.reg [oy 132 (my 5),oy 133 (my 132),py 134 133 (.fad 4 (ty 2)),py 135 133 (.ld 1 false (ty 134)),py 136 133 (my 8),py 137 133 (.iad 9 (ty 135) (ty 136)),py 138 133 (.ld 9 true (ty 137)),py 139 133 (.fad 4 (ty 3)),py 140 133 (.ld 1 false (ty 139)),py 141 133 (my 8),py 142 133 (.iad 9 (ty 140) (ty 141)),py 143 133 (.ld 9 true (ty 142)),py 144 133 (.seq false [(.int .i64 0),(.int .i64 0),(.int .i64 0),(.int .i64 0),(.int .i64 0),(.int .i64 0),(.int .i64 0),(.bool false),(.int .i64 0)] (ty 138) (ty 143)),oy 145 (.pick (ty 133) (ty 144) (.const (.bool false))),oy 5 (my 145)] true [] (some [2,3,5,8]))) (.reg [oy 130 (my 8),oy 131 (.bin .add (ty 130) (.const (.int .i64 1))),oy 8 (my 131)] false [] (some [2,3,5,8])))))=c)=>c) _ (by conv=>lhs;reduce)
def a2e:CC:=(fun (c:CC->CC) (_:(fun a0=>(.block (some [2,3,5]) 4 (.loop 0 (some [2,3,5,8]) a0)))=c)=>c) _ (by conv=>lhs;reduce) a19
def a18:CC:=(fun (c:CC) (_:((.seq (.seq (.reg [oy 104 (my 7),oy 105 (.fad 3 (ty 2)),oy 106 (.ld 1 false (ty 105)),oy 107 (.lenl (ty 106)),oy 108 (.bin .lss (ty 104) (ty 107))] false [] (some [2,3,5,7,108])) (.cond (ty 108) .skip (.exit 2))) (.seq (.block (some [2,3,5,7]) 3 (.sch (.fin [oy 111 (my 5),oy 112 (my 111),py 113 112 (.fad 3 (ty 2)),py 115 112 (my 7),py 118 112 (.fad 3 (ty 3)),py 120 112 (my 7),py 114 112 (.ld 1 false (ty 113)),py 116 112 (.iad 14 (ty 114) (ty 115)),py 117 112 (.ldp 14 true (ty 116)),py 119 112 (.ld 1 false (ty 118)),py 121 112 (.iad 14 (ty 119) (ty 120)),py 122 112 (.ld 14 true (ty 121)),py 123 112 (.call 66 [(ty 117),(ty 122)]),oy 124 (.pick (ty 112) (ty 123) (.const (.bool false))),oy 5 (my 124)]) [111,112,113,115,118,120,116,117,121,124] [] (some [2,3,5,7]))) (.reg [oy 109 (my 7),oy 110 (.bin .add (ty 109) (.const (.int .i64 1))),oy 7 (my 110)] false [] (some [2,3,5,7])))))=c)=>c) _ (by conv=>lhs;reduce)
def a2d:CC:=(fun (c:CC->CC) (_:(fun a0=>(.block (some [2,3,5]) 2 (.loop 0 (some [2,3,5,7]) a0)))=c)=>c) _ (by conv=>lhs;reduce) a18
def a17:CC:=(fun (c:CC) (_:((.seq (.seq (.reg [oy 83 (my 6),oy 84 (.fad 2 (ty 2)),oy 85 (.ld 1 false (ty 84)),oy 86 (.lenl (ty 85)),oy 87 (.bin .lss (ty 83) (ty 86))] false [] (some [2,3,5,6,87])) (.cond (ty 87) .skip (.exit 0))) (.seq (.block (some [2,3,5,6]) 1 (.reg [oy 90 (my 5),oy 91 (my 90),py 92 91 (.fad 2 (ty 2)),py 93 91 (.ld 1 false (ty 92)),py 94 91 (my 6),py 95 91 (.iad 8 (ty 93) (ty 94)),py 96 91 (.ld 8 true (ty 95)),py 97 91 (.fad 2 (ty 3)),py 98 91 (.ld 1 false (ty 97)),py 99 91 (my 6),py 100 91 (.iad 8 (ty 98) (ty 99)),py 101 91 (.ld 8 true (ty 100)),py 102 91 (.seq false [(.int .i64 0),(.int .i64 0),(.int .i64 0),(.int .i64 0),(.int .i64 0),(.int .i64 0),(.int .i64 0),(.bool false)] (ty 96) (ty 101)),oy 103 (.pick (ty 91) (ty 102) (.const (.bool false))),oy 5 (my 103)] true [] (some [2,3,5,6]))) (.reg [oy 88 (my 6),oy 89 (.bin .add (ty 88) (.const (.int .i64 1))),oy 6 (my 89)] false [] (some [2,3,5,6])))))=c)=>c) _ (by conv=>lhs;reduce)
def a2c:CC:=(fun (c:CC->CC) (_:(fun a0=>(.block (some [2,3,5]) 0 (.loop 0 (some [2,3,5,6]) a0)))=c)=>c) _ (by conv=>lhs;reduce) a17
def a2w:CC:=(fun (c:CC->CC->CC->CC->CC->CC) (_:(fun a0 a1 a2 a3 a4=>(.seq (.reg [oy 2 (.bx (ty 0)),oy 3 (.bx (ty 1)),oy 4 (.mv (.const (.bool false)))] false [] (some [2,3])) (.seq (.seq (.reg [oy 11 (.fad 0 (ty 2)),oy 12 (.ld 2 true (ty 11)),oy 13 (.fad 0 (ty 3)),oy 14 (.ld 2 true (ty 13)),oy 15 (.call 65 [(ty 12),(ty 14)]),oy 16 (.un .not (ty 15)),oy 17 (my 16),qy 18 17 (.fad 7 (ty 2)),qy 19 17 (.ld 1 false (ty 18)),qy 20 17 (.fad 7 (ty 3)),qy 21 17 (.ld 1 false (ty 20)),qy 22 17 (.bin .neq (ty 19) (ty 21)),oy 23 (.pick (ty 17) (.const (.bool true)) (ty 22)),oy 24 (my 23),qy 25 24 (.fad 8 (ty 2)),qy 26 24 (.ld 1 false (ty 25)),qy 27 24 (.fad 8 (ty 3)),qy 28 24 (.ld 1 false (ty 27)),qy 29 24 (.bin .neq (ty 26) (ty 28)),oy 30 (.pick (ty 24) (.const (.bool true)) (ty 29)),oy 31 (my 30),qy 32 31 (.fad 9 (ty 2)),qy 33 31 (.ld 1 false (ty 32)),qy 34 31 (.fad 9 (ty 3)),qy 35 31 (.ld 1 false (ty 34)),qy 36 31 (.bin .neq (ty 33) (ty 35)),oy 37 (.pick (ty 31) (.const (.bool true)) (ty 36)),oy 38 (my 37),qy 39 38 (.fad 2 (ty 2)),qy 40 38 (.ld 1 false (ty 39)),qy 41 38 (.lenl (ty 40)),qy 42 38 (.fad 2 (ty 3)),qy 43 38 (.ld 1 false (ty 42)),qy 44 38 (.lenl (ty 43)),qy 45 38 (.bin .neq (ty 41) (ty 44)),oy 46 (.pick (ty 38) (.const (.bool true)) (ty 45)),oy 47 (my 46),qy 48 47 (.fad 3 (ty 2)),qy 49 47 (.ld 1 false (ty 48)),qy 50 47 (.lenl (ty 49)),qy 51 47 (.fad 3 (ty 3)),qy 52 47 (.ld 1 false (ty 51)),qy 53 47 (.lenl (ty 52)),qy 54 47 (.bin .neq (ty 50) (ty 53)),oy 55 (.pick (ty 47) (.const (.bool true)) (ty 54)),oy 56 (my 55),qy 57 56 (.fad 4 (ty 2)),qy 58 56 (.ld 1 false (ty 57)),qy 59 56 (.lenl (ty 58)),qy 60 56 (.fad 4 (ty 3)),qy 61 56 (.ld 1 false (ty 60)),qy 62 56 (.lenl (ty 61)),qy 63 56 (.bin .neq (ty 59) (ty 62)),oy 64 (.pick (ty 56) (.const (.bool true)) (ty 63)),oy 65 (my 64),qy 66 65 (.fad 5 (ty 2)),qy 67 65 (.ld 1 false (ty 66)),qy 68 65 (.lenl (ty 67)),qy 69 65 (.fad 5 (ty 3)),qy 70 65 (.ld 1 false (ty 69)),qy 71 65 (.lenl (ty 70)),qy 72 65 (.bin .neq (ty 68) (ty 71)),oy 73 (.pick (ty 65) (.const (.bool true)) (ty 72)),oy 74 (my 73),qy 75 74 (.fad 6 (ty 2)),qy 76 74 (.ld 1 false (ty 75)),qy 77 74 (.lenl (ty 76)),qy 78 74 (.fad 6 (ty 3)),qy 79 74 (.ld 1 false (ty 78)),qy 80 74 (.lenl (ty 79)),qy 81 74 (.bin .neq (ty 77) (ty 80)),oy 82 (.pick (ty 74) (.const (.bool true)) (ty 81))] false [] (some [2,3,82])) (.cond (ty 82) (.seq (.reg [oy 4 (.mv (.const (.bool false)))] false [4] (some [4])) .ret) .skip)) (.seq (.reg [oy 5 (.mv (.const (.bool true)))] false [] (some [2,3,5])) (.seq (.seq (.reg [oy 6 (.mv (.const (.int .i64 0)))] false [] (some [2,3,5,6])) a0) (.seq (.seq (.reg [oy 7 (.mv (.const (.int .i64 0)))] false [] (some [2,3,5,7])) a1) (.seq (.seq (.reg [oy 8 (.mv (.const (.int .i64 0)))] false [] (some [2,3,5,8])) a2) (.seq (.seq (.reg [oy 9 (.mv (.const (.int .i64 0)))] false [] (some [2,3,5,9])) a3) (.seq (.seq (.reg [oy 10 (.mv (.const (.int .i64 0)))] false [] (some [2,3,5,10])) a4) (.seq (.reg [oy 188 (my 5),oy 4 (my 188)] false [4] (some [4])) .ret))))))))))=c)=>c) _ (by conv=>lhs;reduce) a2c a2d a2e a2f a2g
theorem a2B:aZ Tryz.prog 19 a2w [4] 189:=aZ.of Tryz.f19 Tryz.func19 rfl
def a13:CC:=(fun (c:CC) (_:((.seq (.seq (.reg [oy 82 (my 9),oy 83 (.fad 1 (ty 7)),oy 84 (.ld 1 false (ty 83)),oy 85 (.lenl (ty 84)),oy 86 (.bin .lss (ty 82) (ty 85))] false [] (some [2,3,6,7,8,9,86])) (.cond (ty 86) .skip (.exit 4))) (.seq (.block (some [2,3,6,7,8,9]) 5 (.seq (.reg [oy 89 (.fad 1 (ty 7)),oy 90 (.ld 1 false (ty 89)),oy 91 (my 9),oy 92 (.iad 2 (ty 90) (ty 91)),oy 93 (.ld 2 true (ty 92)),oy 94 (.fad 1 (ty 8)),oy 95 (.ld 1 false (ty 94)),oy 96 (my 9),oy 97 (.iad 2 (ty 95) (ty 96)),oy 98 (.ld 2 true (ty 97)),oy 99 (.seq true [(.int .i64 0),(.int .i64 0)] (ty 93) (ty 98))] true [] (some [2,3,6,7,8,9,99])) (.cond (ty 99) (.seq (.reg [oy 4 (.mv (.const (.bool false)))] false [4] (some [4])) .ret) .skip))) (.reg [oy 87 (my 9),oy 88 (.bin .add (ty 87) (.const (.int .i64 1))),oy 9 (my 88)] false [] (some [2,3,6,7,8,9])))))=c)=>c) _ (by conv=>lhs;reduce)
def a16:CC:=(fun (c:CC->CC) (_:(fun a0=>(.block (some [2,3,6]) 4 (.loop 0 (some [2,3,6,7,8,9]) a0)))=c)=>c) _ (by conv=>lhs;reduce) a13
def a12:CC:=(fun (c:CC->CC) (_:(fun a0=>(.seq (.seq (.reg [oy 44 (my 6),oy 45 (.fad 1 (ty 2)),oy 46 (.ld 1 false (ty 45)),oy 47 (.lenl (ty 46)),oy 48 (.bin .lss (ty 44) (ty 47))] false [] (some [2,3,6,48])) (.cond (ty 48) .skip (.exit 2))) (.seq (.block (some [2,3,6]) 3 (.seq (.sch (.pre [oy 51 (.fad 1 (ty 2)),oy 53 (my 6),oy 56 (.fad 1 (ty 3)),oy 58 (my 6),oy 52 (.ld 1 false (ty 51)),oy 54 (.iad 3 (ty 52) (ty 53)),oy 55 (.ldp 3 true (ty 54))] (.pre [oy 57 (.ld 1 false (ty 56)),oy 59 (.iad 3 (ty 57) (ty 58)),oy 60 (.ldp 3 true (ty 59))] (.fin [oy 7 (.al [(.str []),.aD,(.int .i64 0)]),oy 8 (.al [(.str []),.aD,(.int .i64 0)]),ny (.st 3 (ty 7) (ty 55)),ny (.st 3 (ty 8) (ty 60))]) (.fin [oy 8 (.al [(.str []),.aD,(.int .i64 0)]),oy 7 (.al [(.str []),.aD,(.int .i64 0)]),ny (.st 3 (ty 7) (ty 55)),ny (.st 3 (ty 8) (ty 60))])) (.pre [] (.pre [oy 7 (.al [(.str []),.aD,(.int .i64 0)])] (.fin [oy 57 (.ld 1 false (ty 56)),oy 59 (.iad 3 (ty 57) (ty 58)),oy 60 (.ldp 3 true (ty 59)),oy 8 (.al [(.str []),.aD,(.int .i64 0)]),ny (.st 3 (ty 7) (ty 55)),ny (.st 3 (ty 8) (ty 60))]) (.pre [oy 8 (.al [(.str []),.aD,(.int .i64 0)])] (.fin [oy 57 (.ld 1 false (ty 56)),oy 59 (.iad 3 (ty 57) (ty 58)),oy 60 (.ldp 3 true (ty 59)),ny (.st 3 (ty 7) (ty 55)),ny (.st 3 (ty 8) (ty 60))]) (.fin [ny (.st 3 (ty 7) (ty 55)),oy 57 (.ld 1 false (ty 56)),oy 59 (.iad 3 (ty 57) (ty 58)),oy 60 (.ld 3 true (ty 59)),ny (.st 3 (ty 8) (ty 60))]))) (.pre [oy 8 (.al [(.str []),.aD,(.int .i64 0)])] (.fin [oy 57 (.ld 1 false (ty 56)),oy 59 (.iad 3 (ty 57) (ty 58)),oy 60 (.ldp 3 true (ty 59)),oy 7 (.al [(.str []),.aD,(.int .i64 0)]),ny (.st 3 (ty 7) (ty 55)),ny (.st 3 (ty 8) (ty 60))]) (.pre [oy 7 (.al [(.str []),.aD,(.int .i64 0)])] (.fin [oy 57 (.ld 1 false (ty 56)),oy 59 (.iad 3 (ty 57) (ty 58)),oy 60 (.ldp 3 true (ty 59)),ny (.st 3 (ty 7) (ty 55)),ny (.st 3 (ty 8) (ty 60))]) (.fin [ny (.st 3 (ty 7) (ty 55)),oy 57 (.ld 1 false (ty 56)),oy 59 (.iad 3 (ty 57) (ty 58)),oy 60 (.ld 3 true (ty 59)),ny (.st 3 (ty 8) (ty 60))]))))) [51,53,56,58,54,55,59,60,59,60,59,60,59,59,60,59,60,59] [] (some [2,3,6,7,8])) (.seq (.seq (.reg [oy 61 (.fad 0 (ty 7)),oy 62 (.ld 1 false (ty 61)),oy 63 (.fad 0 (ty 8)),oy 64 (.ld 1 false (ty 63)),oy 65 (.bin .neq (ty 62) (ty 64)),oy 66 (my 65),qy 67 66 (.fad 2 (ty 7)),qy 68 66 (.ld 1 false (ty 67)),qy 69 66 (.fad 2 (ty 8)),qy 70 66 (.ld 1 false (ty 69)),qy 71 66 (.bin .neq (ty 68) (ty 70)),oy 72 (.pick (ty 66) (.const (.bool true)) (ty 71)),oy 73 (my 72),qy 74 73 (.fad 1 (ty 7)),qy 75 73 (.ld 1 false (ty 74)),qy 76 73 (.lenl (ty 75)),qy 77 73 (.fad 1 (ty 8)),qy 78 73 (.ld 1 false (ty 77)),qy 79 73 (.lenl (ty 78)),qy 80 73 (.bin .neq (ty 76) (ty 79)),oy 81 (.pick (ty 73) (.const (.bool true)) (ty 80))] false [] (some [2,3,6,7,8,81])) (.cond (ty 81) (.seq (.reg [oy 4 (.mv (.const (.bool false)))] false [4] (some [4])) .ret) .skip)) (.seq (.reg [oy 9 (.mv (.const (.int .i64 0)))] false [] (some [2,3,6,7,8,9])) a0)))) (.reg [oy 49 (my 6),oy 50 (.bin .add (ty 49) (.const (.int .i64 1))),oy 6 (my 50)] false [] (some [2,3,6])))))=c)=>c) _ (by conv=>lhs;reduce) a16
def a15:CC:=(fun (c:CC->CC) (_:(fun a0=>(.block (some []) 2 (.loop 0 (some [2,3,6]) a0)))=c)=>c) _ (by conv=>lhs;reduce) a12
def a11:CC:=(fun (c:CC) (_:((.seq (.seq (.reg [oy 26 (my 5),oy 27 (.fad 0 (ty 2)),oy 28 (.ld 1 false (ty 27)),oy 29 (.lenl (ty 28)),oy 30 (.bin .lss (ty 26) (ty 29))] false [] (some [2,3,5,30])) (.cond (ty 30) .skip (.exit 0))) (.seq (.block (some [2,3,5]) 1 (.seq (.reg [oy 33 (.fad 0 (ty 2)),oy 34 (.ld 1 false (ty 33)),oy 35 (my 5),oy 36 (.iad 1 (ty 34) (ty 35)),oy 37 (.ld 1 false (ty 36)),oy 38 (.fad 0 (ty 3)),oy 39 (.ld 1 false (ty 38)),oy 40 (my 5),oy 41 (.iad 1 (ty 39) (ty 40)),oy 42 (.ld 1 false (ty 41)),oy 43 (.bin .neq (ty 37) (ty 42))] true [] (some [2,3,5,43])) (.cond (ty 43) (.seq (.reg [oy 4 (.mv (.const (.bool false)))] false [4] (some [4])) .ret) .skip))) (.reg [oy 31 (my 5),oy 32 (.bin .add (ty 31) (.const (.int .i64 1))),oy 5 (my 32)] false [] (some [2,3,5])))))=c)=>c) _ (by conv=>lhs;reduce)
def a14:CC:=(fun (c:CC->CC) (_:(fun a0=>(.block (some [2,3]) 0 (.loop 0 (some [2,3,5]) a0)))=c)=>c) _ (by conv=>lhs;reduce) a11
def a2v:CC:=(fun (c:CC->CC->CC) (_:(fun a0 a1=>(.seq (.reg [oy 2 (.bx (ty 0)),oy 3 (.bx (ty 1)),oy 4 (.mv (.const (.bool false)))] false [] (some [2,3])) (.seq (.seq (.reg [oy 10 (.fad 0 (ty 2)),oy 11 (.ld 1 false (ty 10)),oy 12 (.lenl (ty 11)),oy 13 (.fad 0 (ty 3)),oy 14 (.ld 1 false (ty 13)),oy 15 (.lenl (ty 14)),oy 16 (.bin .neq (ty 12) (ty 15)),oy 17 (my 16),qy 18 17 (.fad 1 (ty 2)),qy 19 17 (.ld 1 false (ty 18)),qy 20 17 (.lenl (ty 19)),qy 21 17 (.fad 1 (ty 3)),qy 22 17 (.ld 1 false (ty 21)),qy 23 17 (.lenl (ty 22)),qy 24 17 (.bin .neq (ty 20) (ty 23)),oy 25 (.pick (ty 17) (.const (.bool true)) (ty 24))] false [] (some [2,3,25])) (.cond (ty 25) (.seq (.reg [oy 4 (.mv (.const (.bool false)))] false [4] (some [4])) .ret) .skip)) (.seq (.seq (.reg [oy 5 (.mv (.const (.int .i64 0)))] false [] (some [2,3,5])) a0) (.seq (.seq (.reg [oy 6 (.mv (.const (.int .i64 0)))] false [] (some [2,3,6])) a1) (.seq (.reg [oy 4 (.mv (.const (.bool true)))] false [4] (some [4])) .ret))))))=c)=>c) _ (by conv=>lhs;reduce) a14 a15
theorem a2A:aZ Tryz.prog 65 a2v [4] 100:=aZ.of Tryz.f65 Tryz.func65 rfl
def a1Z:CC:=(fun (c:CC) (_:((.seq (.seq (.reg [oy 69 (my 5),oy 70 (.fad 7 (ty 2)),oy 71 (.ld 1 false (ty 70)),oy 72 (.lenl (ty 71)),oy 73 (.bin .lss (ty 69) (ty 72))] false [] (some [2,3,5,73])) (.cond (ty 73) .skip (.exit 0))) (.seq (.block (some [2,3,5]) 1 (.seq (.reg [oy 76 (.fad 7 (ty 2)),oy 77 (.ld 1 false (ty 76)),oy 78 (my 5),oy 79 (.iad 8 (ty 77) (ty 78)),oy 80 (.ld 8 true (ty 79)),oy 81 (.fad 7 (ty 3)),oy 82 (.ld 1 false (ty 81)),oy 83 (my 5),oy 84 (.iad 8 (ty 82) (ty 83)),oy 85 (.ld 8 true (ty 84)),oy 86 (.seq true [(.int .i64 0),(.int .i64 0),(.int .i64 0),(.int .i64 0),(.int .i64 0),(.int .i64 0),(.int .i64 0),(.int .i64 0)] (ty 80) (ty 85))] true [] (some [2,3,5,86])) (.cond (ty 86) (.seq (.reg [oy 4 (.mv (.const (.bool false)))] false [4] (some [4])) .ret) .skip))) (.reg [oy 74 (my 5),oy 75 (.bin .add (ty 74) (.const (.int .i64 1))),oy 5 (my 75)] false [] (some [2,3,5])))))=c)=>c) _ (by conv=>lhs;reduce)
def a10:CC:=(fun (c:CC->CC) (_:(fun a0=>(.block (some [2,3]) 0 (.loop 0 (some [2,3,5]) a0)))=c)=>c) _ (by conv=>lhs;reduce) a1Z
def a2u:CC:=(fun (c:CC->CC) (_:(fun a0=>(.seq (.reg [oy 2 (.bx (ty 0)),oy 3 (.bx (ty 1)),oy 4 (.mv (.const (.bool false)))] false [] (some [2,3])) (.seq (.seq (.reg [oy 6 (.fad 0 (ty 2)),oy 7 (.ld 1 false (ty 6)),oy 8 (.fad 0 (ty 3)),oy 9 (.ld 1 false (ty 8)),oy 10 (.bin .neq (ty 7) (ty 9)),oy 11 (my 10),qy 12 11 (.fad 1 (ty 2)),qy 13 11 (.ld 1 false (ty 12)),qy 14 11 (.fad 1 (ty 3)),qy 15 11 (.ld 1 false (ty 14)),qy 16 11 (.bin .neq (ty 13) (ty 15)),oy 17 (.pick (ty 11) (.const (.bool true)) (ty 16)),oy 18 (my 17),qy 19 18 (.fad 2 (ty 2)),qy 20 18 (.ld 1 false (ty 19)),qy 21 18 (.fad 2 (ty 3)),qy 22 18 (.ld 1 false (ty 21)),qy 23 18 (.bin .neq (ty 20) (ty 22)),oy 24 (.pick (ty 18) (.const (.bool true)) (ty 23)),oy 25 (my 24),qy 26 25 (.fad 3 (ty 2)),qy 27 25 (.ld 1 false (ty 26)),qy 28 25 (.fad 3 (ty 3)),qy 29 25 (.ld 1 false (ty 28)),qy 30 25 (.bin .neq (ty 27) (ty 29)),oy 31 (.pick (ty 25) (.const (.bool true)) (ty 30)),oy 32 (my 31),qy 33 32 (.fad 4 (ty 2)),qy 34 32 (.ld 1 false (ty 33)),qy 35 32 (.fad 4 (ty 3)),qy 36 32 (.ld 1 false (ty 35)),qy 37 32 (.bin .neq (ty 34) (ty 36)),oy 38 (.pick (ty 32) (.const (.bool true)) (ty 37)),oy 39 (my 38),qy 40 39 (.fad 5 (ty 2)),qy 41 39 (.ld 2 true (ty 40)),qy 42 39 (.fad 5 (ty 3)),qy 43 39 (.ld 2 true (ty 42)),qy 44 39 (.seq true [(.int .i64 0),(.int .i64 0)] (ty 41) (ty 43)),oy 45 (.pick (ty 39) (.const (.bool true)) (ty 44)),oy 46 (my 45),qy 47 46 (.fad 8 (ty 2)),qy 48 46 (.ld 1 false (ty 47)),qy 49 46 (.fad 8 (ty 3)),qy 50 46 (.ld 1 false (ty 49)),qy 51 46 (.bin .neq (ty 48) (ty 50)),oy 52 (.pick (ty 46) (.const (.bool true)) (ty 51)),oy 53 (my 52),qy 54 53 (.fad 9 (ty 2)),qy 55 53 (.ld 1 false (ty 54)),qy 56 53 (.fad 9 (ty 3)),qy 57 53 (.ld 1 false (ty 56)),qy 58 53 (.bin .neq (ty 55) (ty 57)),oy 59 (.pick (ty 53) (.const (.bool true)) (ty 58)),oy 60 (my 59),qy 61 60 (.fad 7 (ty 2)),qy 62 60 (.ld 1 false (ty 61)),qy 63 60 (.lenl (ty 62)),qy 64 60 (.fad 7 (ty 3)),qy 65 60 (.ld 1 false (ty 64)),qy 66 60 (.lenl (ty 65)),qy 67 60 (.bin .neq (ty 63) (ty 66)),oy 68 (.pick (ty 60) (.const (.bool true)) (ty 67))] false [] (some [2,3,68])) (.cond (ty 68) (.seq (.reg [oy 4 (.mv (.const (.bool false)))] false [4] (some [4])) .ret) .skip)) (.seq (.seq (.reg [oy 5 (.mv (.const (.int .i64 0)))] false [] (some [2,3,5])) a0) (.seq (.reg [oy 87 (.fad 10 (ty 2)),oy 88 (.ld 1 false (ty 87)),oy 89 (.fad 10 (ty 3)),oy 90 (.ld 1 false (ty 89)),oy 91 (.call 129 [(ty 88),(ty 90)]),oy 92 (my 91),py 93 92 (.fad 11 (ty 2)),py 94 92 (.ld 1 false (ty 93)),py 95 92 (.fad 11 (ty 3)),py 96 92 (.ld 1 false (ty 95)),py 97 92 (.call 129 [(ty 94),(ty 96)]),oy 98 (.pick (ty 92) (ty 97) (.const (.bool false))),oy 99 (my 98),py 100 99 (.fad 12 (ty 2)),py 101 99 (.ld 1 false (ty 100)),py 102 99 (.fad 12 (ty 3)),py 103 99 (.ld 1 false (ty 102)),py 104 99 (.call 129 [(ty 101),(ty 103)]),oy 105 (.pick (ty 99) (ty 104) (.const (.bool false))),oy 106 (my 105),py 107 106 (.fad 13 (ty 2)),py 108 106 (.ld 1 false (ty 107)),py 109 106 (.fad 13 (ty 3)),py 110 106 (.ld 1 false (ty 109)),py 111 106 (.call 129 [(ty 108),(ty 110)]),oy 112 (.pick (ty 106) (ty 111) (.const (.bool false))),oy 4 (my 112)] false [4] (some [4])) .ret)))))=c)=>c) _ (by conv=>lhs;reduce) a10
theorem a2z:aZ Tryz.prog 66 a2u [4] 113:=aZ.of Tryz.f66 Tryz.func66 rfl
def a1V:CC:=(fun (c:CC) (_:((.seq (.seq (.reg [oy 11 (my 5),oy 12 (my 0),oy 13 (.lenl (ty 12)),oy 14 (.bin .lss (ty 11) (ty 13))] false [] (some [0,1,5,14])) (.cond (ty 14) .skip (.exit 0))) (.seq (.block (some [0,1,5]) 1 (.seq (.reg [oy 17 (my 0),oy 18 (my 5),oy 19 (.iad 1 (ty 17) (ty 18)),oy 20 (.ld 1 false (ty 19)),oy 21 (my 1),oy 22 (my 5),oy 23 (.iad 1 (ty 21) (ty 22)),oy 24 (.ld 1 false (ty 23)),oy 25 (.bin .neq (ty 20) (ty 24))] true [] (some [0,1,5,25])) (.cond (ty 25) (.seq (.reg [oy 4 (.mv (.const (.bool false)))] false [4] (some [4])) .ret) .skip))) (.reg [oy 15 (my 5),oy 16 (.bin .add (ty 15) (.const (.int .i64 1))),oy 5 (my 16)] false [] (some [0,1,5])))))=c)=>c) _ (by conv=>lhs;reduce)
def a1W:CC:=(fun (c:CC->CC) (_:(fun a0=>(.block (some []) 0 (.loop 0 (some [0,1,5]) a0)))=c)=>c) _ (by conv=>lhs;reduce) a1V
def a2l:CC:=(fun (c:CC->CC) (_:(fun a0=>(.seq (.reg [oy 4 (.mv (.const (.bool false)))] false [] (some [0,1])) (.seq (.seq (.reg [oy 6 (my 0),oy 7 (.lenl (ty 6)),oy 8 (my 1),oy 9 (.lenl (ty 8)),oy 10 (.bin .neq (ty 7) (ty 9))] false [] (some [0,1,10])) (.cond (ty 10) (.seq (.reg [oy 4 (.mv (.const (.bool false)))] false [4] (some [4])) .ret) .skip)) (.seq (.seq (.reg [oy 5 (.mv (.const (.int .i64 0)))] false [] (some [0,1,5])) a0) (.seq (.reg [oy 4 (.mv (.const (.bool true)))] false [4] (some [4])) .ret)))))=c)=>c) _ (by conv=>lhs;reduce) a1W
theorem a2t:aZ Tryz.prog 129 a2l [4] 26:=aZ.of Tryz.f129 Tryz.func129 rfl
end Go.Proofs.YtakemdamegfcfaaGreat
