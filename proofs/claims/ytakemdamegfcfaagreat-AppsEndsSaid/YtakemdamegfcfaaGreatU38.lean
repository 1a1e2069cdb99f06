/- A part of a proof: what functions of the program compute. No condition. -/
import Derived.Test.YtakemdamegfcfaaGreatU37
import Derived.Test.YtakemdamegfcfaaGreatT6
import Derived.Test.YtakemdamegfcfaaGreatProg
import Derived.KernelRfl
import Derived.Test.YtakemdamegfcfaaGreatT10
set_option linter.unusedSimpArgs false
set_option linter.unusedVariables false
set_option maxHeartbeats 16000000
set_option maxRecDepth 100000
namespace Go.Proofs.YtakemdamegfcfaaGreat
open Go Go.Ab
theorem a3n (l:List (Node)) (hl:l.length<=2^40):aT Tryz.prog 118 [.sl false 8 (l.map bO)] (.sl false 8 (l.map bO)):=by
 refine aT.wk3 (aK a4z (by simp) ?_)
 unfold a36
 refine Wa ?_
 refine ⟨fun e=>?_,?_⟩
 · rw [e]
   exact .inl (.inl (.inr ⟨rfl,_,_,rfl⟩))
 · refine ⟨⟨by omega,by omega⟩,?_⟩
   exact .inl (.inl (.inl rfl))
theorem a4E (l:List (bD)) (hl:l.length<=2^40):aW Tryz.prog 119 [.sl false 9 (l.map bY)] [] fun y G=>y= .own 0 9 0 l.length/\G=[.arr 9 (l.map bY)]:=by
 have key:aW Tryz.prog 119 [.sl false 9 (l.map bY)] [] fun y G=>(l=[]/\y= .aD/\G=[])∨(y= .own 1 9 0 l.length/\G=[.dead,.arr 9 (l.map bY)]):=by
  refine aK a4y (by simp) ?_
  unfold a35
  refine Wa ?_
  exact ⟨fun e=>List.map_eq_nil_iff.1 e,by omega,by omega⟩
 refine key.sub ?_
 rintro y G (⟨rfl,rfl,rfl⟩|⟨rfl,rfl⟩)
 · refine ⟨_,_,?_,rfl,rfl⟩
   exact Sub.ofS [none]
 · refine ⟨_,_,?_,rfl,rfl⟩
   exact Sub.ofS [some 1]
theorem a4D (l:List (dY)) (hl:l.length<=2^40):aW Tryz.prog 120 [.sl false 3 (l.map gW)] [] fun y G=>y= .own 0 3 0 l.length/\G=[.arr 3 (l.map gW)]:=by
 have key:aW Tryz.prog 120 [.sl false 3 (l.map gW)] [] fun y G=>(l=[]/\y= .aD/\G=[])∨(y= .own 1 3 0 l.length/\G=[.dead,.arr 3 (l.map gW)]):=by
  refine aK a4x (by simp) ?_
  unfold a34
  refine Wa ?_
  exact ⟨fun e=>List.map_eq_nil_iff.1 e,by omega,by omega⟩
 refine key.sub ?_
 rintro y G (⟨rfl,rfl,rfl⟩|⟨rfl,rfl⟩)
 · refine ⟨_,_,?_,rfl,rfl⟩
   exact Sub.ofS [none]
 · refine ⟨_,_,?_,rfl,rfl⟩
   exact Sub.ofS [some 1]
theorem aFF (l:List Int) (hl:l.length<=2^40):aT Tryz.prog 138 [.sl false 1 (l.map I64)] (.sl false 1 (l.map I64)):=by
 refine aT.wk3 (aK a47 (by simp) ?_)
 unfold a4g
 refine Wa ?_
 have e:(l.map I64++(List.replicate l.length (AV.int .i64 0)).drop l.length).take l.length=l.map I64:=List.take_left' (by simp)
 rw [e]
 exact ⟨by omega,by omega,by omega,by omega,.inl (.inl (.inl rfl))⟩
theorem a3G (a:App) (h1:a.asks.length<=2^40) (h2:a.grants.length<=2^40) (h3:a.kills.length<=2^40) (h4:a.told.length<=2^40) (h5:a.lost.length<=2^40):aT Tryz.prog 83 [APP a] (APP a):=by
 unfold aT
 refine aO a4T (by simp) ?_
 unfold a5f
 simp -implicitDefEqProofs(disch:=first|decide|omega)only[↓aA,aC,aB,simprocAttr,x8,a9,List.append_nil]
 refine bP (aXa _ h1) rfl rfl ?_
 refine Wr ?_
 refine bP (aFF _ h2) rfl rfl ?_
 refine Wr ?_
 refine bP (aFF _ h3) rfl rfl ?_
 refine Wr ?_
 refine bP (aFF _ h4) rfl rfl ?_
 refine Wr ?_
 refine bP (aFF _ h5) rfl rfl ?_
 simp -implicitDefEqProofs(disch:=first|decide|omega)only[↓aA,aC,aB,simprocAttr,x8,a9,List.append_nil]
def owA (s:Sta) (i j k m:Nat):List AV:=[.sl false 1 (s.labels.map .str),.own i 3 0 s.qs.length,.sl false 8 (s.nodes.map bO),.own j 14 0 s.apps.length,.own k 9 0 s.conts.length,.own m 3 0 s.slots.length,.sl false 6 (s.plans.map eD),.int .i64 s.now,.int .i64 s.ep,.int .i64 s.sq]
set_option maxRecDepth 20000 in
set_option maxHeartbeats 16000000 in
theorem a5v (s:Sta) (h:NOk s):aW Tryz.prog 70 [.agg (stC s)] [] fun y G=>y= .agg (owA s 0 3 1 2)/\G=[.arr 3 (s.qs.map QUE),.arr 9 (s.conts.map bY),.arr 3 (s.slots.map gW),.arr 14 (s.apps.map APP)]:=by
 have key:aW Tryz.prog 70 [.agg (stC s)] [] fun y G=>y= .agg (owA s 2 5 3 4)/\∃ G1 G2,G=G1 :: G2 :: [.arr 3 (s.qs.map QUE),.arr 9 (s.conts.map bY),.arr 3 (s.slots.map gW),.arr 14 (s.apps.map APP)]:=by
  refine aO a4V (by simp) ?_
  obtain ⟨ls,qs,nodes,apps,conts,slots,plans,now,ep,sq⟩:=s
  obtain ⟨hct,hn,ha,haa,hc,hs,hp⟩:=h
  simp only at hct hn ha haa hc hs hp
  have hl3:=hct.l3
  have hq3:=hct.q3
  have hqr:=hct.qr
  unfold a5o stC
  refine Wa ?_
  unfold a3w
  refine aS1 (fun s'=>s'=⟨[(1,.ref 0 0 0),(2,.ref 1 0 0)],[.box [.sl false 1 (ls.map .str),.own 2 3 0 qs.length,.sl false 8 (nodes.map bO),.sl false 14 (apps.map APP),.sl false 9 (conts.map bY),.sl false 3 (slots.map gW),.sl false 6 (plans.map eD),.int .i64 now,.int .i64 ep,.int .i64 sq],.box NL,.arr 3 (qs.map QUE)]⟩) ?_ ?_
  · unfold NL
    refine Wa ?_
    refine bP (aXh ls (by omega)) rfl rfl ?_
    refine Wa ?_
    refine nI (aXg qs (by omega)) rfl rfl ?_
    rintro y G ⟨rfl,rfl⟩
    simp -implicitDefEqProofs(disch:=first|decide|omega)only[↓aA,aC,aB,simprocAttr,x8,AV.ren,AO.ren,up]
  · rintro s' rfl
    refine Wa ?_
    unfold a3x
    refine Wa ?_
    refine aF (σ:=Nat) (fun i=>⟨[(1,.ref 0 0 0),(2,.ref 1 0 0),(21,.own 2 3 0 qs.length),(22,.int .i64 (qs.length:Int)),(23,.int .i64 (i:Int))],[.box [.sl false 1 (ls.map .str),.own 2 3 0 qs.length,.sl false 8 (nodes.map bO),.sl false 14 (apps.map APP),.sl false 9 (conts.map bY),.sl false 3 (slots.map gW),.sl false 6 (plans.map eD),.int .i64 now,.int .i64 ep,.int .i64 sq],.box NL,.arr 3 (qs.map QUE)]⟩) (fun i=>i<=qs.length) (fun i=>qs.length-i) 0 (.inl rfl) (by omega) ?_
    intro i hi
    unfold a3u
    by_cases hil:i<qs.length
    · have hg:qs.getD i default=qs[i]:=by simp [hil]
      have hx:=(hqr _ (List.getElem_mem hil)).caps
      have hset:qs.set i { qs[i] with caps:=qs[i].caps }=qs:=List.set_getElem_self hil
      simp -implicitDefEqProofs(disch:=first|decide|omega)only[↓aA,aC,aB,simprocAttr,x8,bW,hg,List.append_nil]
      refine ⟨by omega,by omega,?_⟩
      repeat' first
       | omega
       | (refine aE (aI.of (aM:=false) (aXf qs[i].caps (by omega)) (.refl rfl) rfl (by simp)) ?_;simp -implicitDefEqProofs(disch:=first|decide|omega)only[↓aA,aC,aB,simprocAttr,x8,bW,hg,hset])
         | (refine bP (aXf qs[i].caps (by omega)) rfl rfl ?_;simp -implicitDefEqProofs(disch:=first|decide|omega)only[↓aA,aC,aB,simprocAttr,x8,bW,hg,hset])
       | exact ⟨i+1,(by (refine Sub.of0 [some 0,some 1,some 2] rfl ?_ rfl ?_<;>repeat' first|trivial|rfl|exact .inl rfl|exact .inr ⟨rfl,_,_,rfl⟩|(simp;done)|(simp;omega)|refine And.intro ?_ ?_)),by omega,by omega⟩
       | apply And.intro
    · refine Wa ?_
      unfold a2P
      refine aS1 (fun s'=>s'=⟨[(1,.ref 0 0 0),(2,.ref 1 0 0)],[.box [.sl false 1 (ls.map .str),.own 2 3 0 qs.length,.sl false 8 (nodes.map bO),.sl false 14 (apps.map APP),.own 3 9 0 conts.length,.own 4 3 0 slots.length,.sl false 6 (plans.map eD),.int .i64 now,.int .i64 ep,.int .i64 sq],.box NL,.arr 3 (qs.map QUE),.arr 9 (conts.map bY),.arr 3 (slots.map gW)]⟩) ?_ ?_
      · simp -implicitDefEqProofs(disch:=first|decide|omega)only[↓aA,aC,aB,simprocAttr,x8]
        repeat' first
         | (refine aE (aI.of (aM:=false) (a3n nodes (by omega)) (.refl rfl) rfl (by simp)) ?_;simp -implicitDefEqProofs(disch:=first|decide|omega)only[↓aA,aC,aB,simprocAttr,x8])
         | (refine bP (a3n nodes (by omega)) rfl rfl ?_;simp -implicitDefEqProofs(disch:=first|decide|omega)only[↓aA,aC,aB,simprocAttr,x8])
         | (refine aE (aI.of (aM:=false) (aOf plans (by omega)) (.refl rfl) rfl (by simp)) ?_;simp -implicitDefEqProofs(disch:=first|decide|omega)only[↓aA,aC,aB,simprocAttr,x8])
         | (refine bP (aOf plans (by omega)) rfl rfl ?_;simp -implicitDefEqProofs(disch:=first|decide|omega)only[↓aA,aC,aB,simprocAttr,x8])
         | (refine nI (a4E conts (by omega)) rfl rfl ?_;rintro y G ⟨rfl,rfl⟩;simp -implicitDefEqProofs(disch:=first|decide|omega)only[↓aA,aC,aB,simprocAttr,x8,AV.ren,AO.ren,up])
         | (refine nI (a4D slots (by omega)) rfl rfl ?_;rintro y G ⟨rfl,rfl⟩;simp -implicitDefEqProofs(disch:=first|decide|omega)only[↓aA,aC,aB,simprocAttr,x8,AV.ren,AO.ren,up])
         | apply And.intro
      · rintro s' rfl
        unfold a2O
        refine Wa ?_
        refine nI (aXb apps ha) rfl rfl ?_
        rintro y G ⟨rfl,rfl⟩
        simp -implicitDefEqProofs(disch:=first|decide|omega)only[↓aA,aC,aB,simprocAttr,x8,AV.ren,AO.ren,up]
        unfold a3y
        refine Wa ?_
        refine aF (σ:=Nat) (fun i=>⟨[(1,.ref 0 0 0),(2,.ref 1 0 0),(59,.own 5 14 0 apps.length),(60,.int .i64 (apps.length:Int)),(61,.int .i64 (i:Int))],[.box [.sl false 1 (ls.map .str),.own 2 3 0 qs.length,.sl false 8 (nodes.map bO),.own 5 14 0 apps.length,.own 3 9 0 conts.length,.own 4 3 0 slots.length,.sl false 6 (plans.map eD),.int .i64 now,.int .i64 ep,.int .i64 sq],.box NL,.arr 3 (qs.map QUE),.arr 9 (conts.map bY),.arr 3 (slots.map gW),.arr 14 (apps.map APP)]⟩) (fun i=>i<=apps.length) (fun i=>apps.length-i) 0 (.inl rfl) (by omega) ?_
        intro i hi
        unfold a3v
        by_cases hil:i<apps.length
        · have hg:apps.getD i default=apps[i]:=by simp [hil]
          have hx:=haa _ (List.getElem_mem hil)
          have hset:apps.set i apps[i]=apps:=List.set_getElem_self hil
          have b1:=hx.asks;have b2:=hx.gl;have b3:=hx.kl;have b4:=hx.tl;have b5:=hx.ll
          unfold wX at b2 b3 b4 b5
          have ca:=a3G apps[i] (by omega) (by omega) (by omega) (by omega) (by omega)
          simp -implicitDefEqProofs(disch:=first|decide|omega)only[↓aA,aC,aB,simprocAttr,x8,a9,hg,List.append_nil]
          refine ⟨by omega,by omega,?_⟩
          repeat' first
           | omega
           | (refine bP (ca) rfl rfl ?_;simp -implicitDefEqProofs(disch:=first|decide|omega)only[↓aA,aC,aB,simprocAttr,x8,a9,hg,hset,List.append_nil])
           | exact ⟨i+1,(by (refine Sub.of0 [some 0,some 1,some 2,some 3,some 4,some 5] rfl ?_ rfl ?_<;>repeat' first|trivial|rfl|exact .inl rfl|exact .inr ⟨rfl,_,_,rfl⟩|(simp;done)|(simp;omega)|refine And.intro ?_ ?_)),by omega,by omega⟩
           | apply And.intro
        · refine Wa ?_
          unfold NL
          refine Wa ?_
          exact ⟨rfl,_,_,rfl⟩
 refine key.sub ?_
 rintro y G ⟨rfl,G1,G2,rfl⟩
 refine ⟨_,_,?_,rfl,rfl⟩
 unfold owA
 exact Sub.ofS [some 2,some 3,some 4,some 5]
def uK {α:Type} (p:α->Bool) (l:List α):Int:=if l.any p then (l.findIdx p:Nat) else -1
theorem aSq {α:Type} {p:α->Bool} {l:List α} {i:Nat} (hi:i<l.length) (hn:∀ j,(h:j<i)->p (l[j]'(by omega))=false) (hp:p (l[i]'hi)=true):uK p l=(i:Int):=by
 unfold uK
 have:l.any p=true:=List.any_eq_true.2 ⟨_,List.getElem_mem hi,hp⟩
 rw [if_pos this]
 congr 1
 exact (List.findIdx_eq hi).2 ⟨hp,fun j hj=>hn j hj⟩
theorem aSp {α:Type} {p:α->Bool} {l:List α} (hn:∀ j,(h:j<l.length)->p l[j]=false):uK p l= -1:=by
 unfold uK
 have:l.any p=false:=by
  rw [List.any_eq_false]
  intro x hx
  obtain ⟨j,hj,rfl⟩:=List.getElem_of_mem hx
  rw [hn j hj]
  simp
 rw [this]
 rfl
theorem yU {α:Type} (p:α->Bool) (l:List α):(uK p l= -1/\l.find? p=none)∨∃ i:Nat,∃ h:i<l.length,uK p l=(i:Int)/\p l[i]=true/\l.find? p=some l[i]/\∀ j,(hj:j<i)->p (l[j]'(by omega))=false:=by
 unfold uK
 cases h:l.any p
 · rw [List.any_eq_false] at h
   exact .inl ⟨rfl,List.find?_eq_none.2 h⟩
 · have hi:l.findIdx p<l.length:=by
    rw [List.findIdx_lt_length]
    obtain ⟨x,hx,hp⟩:=List.any_eq_true.1 h
    exact ⟨x,hx,hp⟩
   have hn:∀ j,(hj:j<l.findIdx p)->p (l[j]'(by omega))=false:=fun j hj=>by
    have:=List.not_of_lt_findIdx hj
    simpa using this
   have hp:p l[l.findIdx p]=true:=List.findIdx_getElem (w:=hi)
   refine .inr ⟨l.findIdx p,hi,rfl,hp,?_,hn⟩
   exact List.find?_eq_some_iff_getElem.2 ⟨hp,l.findIdx p,hi,rfl,fun j hj=>by rw [hn j hj];rfl⟩
theorem a1X {α:Type} (p:α->Bool) (l:List α):(uK p l= -1/\∀ x∈l,p x=false)∨∃ i:Nat,∃ h:i<l.length,uK p l=(i:Int)/\p l[i]=true/\∀ j,(hj:j<i)->p (l[j]'(by omega))=false:=by
 unfold uK
 cases h:l.any p
 · rw [List.any_eq_false] at h
   exact .inl ⟨rfl,fun x hx=>by simpa using h x hx⟩
 · have hi:l.findIdx p<l.length:=by
    rw [List.findIdx_lt_length]
    obtain ⟨x,hx,hp⟩:=List.any_eq_true.1 h
    exact ⟨x,hx,hp⟩
   refine .inr ⟨l.findIdx p,hi,rfl,List.findIdx_getElem (w:=hi),fun j hj=>?_⟩
   have:=List.not_of_lt_findIdx hj
   simpa using this
theorem _root_.Go.Ab.aW.len {P:Program} {f:FuncId} {args:List AV} {H:List AO} {Post:AV->List AO->Prop} (h:aW P f args H Post):aW P f args H fun y G=>Post y G/\H.length<=G.length :=
 ⟨h.1,fun E vs hm hl hv=>(h.2 E vs hm hl hv).mono fun e w' ⟨v,y,H',E',h1,h2,h3,h4,h5,h6⟩=>⟨v,y,H',E',h1,h2,h3,h4,h5,h6,h5.num⟩⟩
def frL (P:Nat->AO->Prop):Nat->List AO->Prop
 | _,[]=>True
 | k,a :: l=>P k a/\frL P (k+1) l
theorem b8i {P:Nat->AO->Prop}:∀ {l:List AO} {n:Nat},frL P n l->∀ k o,l[k]?=some o->P (n+k) o
 | [],n,_,k,o,h=>by simp at h
 | a :: l,n,h1,0,o,h=>by cases h;exact h1.1
 | a :: l,n,h1,k+1,o,h=>by
   have:=b8i h1.2 k o h
   rwa [show n+1+k=n+(k+1) by omega] at this
theorem _root_.Go.Ab.aW.fr {P:Program} {f:FuncId} {args:List AV} {Hc H:List AO} {Post:AV->List AO->Prop} (h:aW P f args Hc Post) (ρ:List Nat) (hlen:ρ.length=Hc.length:=by exact rfl) (hnd:ρ.Nodup:=by simp) (hlt:∀ i∈ρ,i<H.length:=by simp)
 (hH:frL (fun k o=>H[ρ.getD k 0]?=some (o.ren fun i=>ρ.getD i 0)/\o.bel Hc.length=true) 0 Hc:=by repeat' first|exact trivial|exact ⟨rfl,rfl⟩|refine And.intro ?_ ?_) (hb:AV.nM Hc.length args=true:=by exact rfl) :
 aW P f (AV.lG (fun i=>ρ.getD i 0) args) H fun y' H'=>∃ y Hr,Post y Hr/\y'=y.ren (ext ρ H.length)/\H'=spl ρ H Hr :=
 h.frame ρ hlen hnd hlt (fun k o hk=>by simpa using b8i hH k o hk) hb
theorem _root_.Go.Ab.aW.pad {P:Program} {f:FuncId} {args:List AV} {Post:AV->List AO->Prop} (h:aW P f args [.dead] Post):aW P f args [] Post:=by
 refine ⟨h.1,fun E vs hm hl hv=>?_⟩
 have t:Trans E 0 E 1:=⟨rfl,rfl,rfl,Nat.le_refl _,fun _ _ _=>rfl,fun _ _ h=>h,fun _ _ h=>.inl h,fun _ h=>.inl h,fun _ _=>rfl,by omega⟩
 have hm1:HM E [.dead]:=⟨fun id o ho=>by
  match id,ho with
  | 0,ho=>simp at ho;subst ho;trivial
  | k+1,ho=>simp at ho,fun i j oi oj Li Lj hij hi hj hli=>by
  match i,hi with
  | 0,hi=>simp at hi;subst hi;simp [AO.live] at hli
  | k+1,hi=>simp at hi,hm.disj,hm.bound,hm.sbound,hm.sub⟩
 refine (h.2 E vs hm1 hl fun k y hk=>(hv k y hk).trans hm t).mono fun e w' ⟨v,y,H',E',h1,h2,h3,h4,h5,h6⟩=>⟨v,y,H',E',h1,h2,h3,h4,?_,h6⟩
 exact t.trans h5
theorem a2m (a:App):aT Tryz.prog 38 [APP a] (.bool (live a)):=by
 unfold aT
 refine aK a5E (by simp) ?_
 unfold a5p live
 by_cases h1:a.state=1
 · refine Wr ?_
   simp [h1]
 · refine Wr ?_
   rfl
theorem a26 (a:App):aT Tryz.prog 76 [APP a] (.bool (!live a)):=by
 unfold aT
 refine aK a5z (by simp) ?_
 unfold a5j
 refine Wr ?_
 refine aE (aI.of (aM:=false) (a2m a) (.refl rfl) rfl (by simp)) ?_
 exact Ta
def idA (p:Int) (a:App):Bool:=a.id==p
theorem a4G (x:App) (p:Int):aW Tryz.prog 133 [APP x,.ref 0 0 0] [.box [.int .i64 p]] fun y G=>y= .bool (idA p x)/\G=[.box [.int .i64 p]]:=by
 have key:aW Tryz.prog 133 [APP x,.ref 0 0 0] [.box [.int .i64 p]] fun y G=>y= .bool (idA p x)/\∃ o,G=[.box [.int .i64 p],o]:=by
  refine zL a5b (by simp) rfl ?_
  unfold a4k
  refine Wr ?_
  exact ⟨rfl,_,rfl⟩
 refine key.sub ?_
 rintro y G ⟨rfl,o,rfl⟩
 refine ⟨_,_,?_,rfl,rfl⟩
 (refine Sub.ofL [some 0] rfl (by simp) (by decide) (by simp [cQ,AO.ro,AV.ro,AV.roL,names,AO.empty,SB,U8,SI,I64,STR]<;>(try and_intros)<;>rfl) (by simp [AO.bo,AV.bo,AV.boL,names]<;>(try and_intros)<;>rfl) ?_<;>(try simp only [List.map_cons,List.map_nil,cV,AV.ro,AV.roL,AV.bo,AV.boL,names,bK,bE,Nat.reduceBEq,List.getD_cons_zero,List.getD_cons_succ,List.getD_nil,and_true,true_and,Nat.reduceLT,List.length_cons,List.length_nil,Nat.reduceAdd,decide_true,Option.isSome_some,Bool.true_or,Bool.and_self,Option.isSome_none,Bool.false_or,beq_self_eq_true,bL,bM])<;>(try and_intros)<;>(first|done|rfl|exact .inl rfl|exact .inr ⟨rfl,_,_,rfl⟩|(simp;done)|(simp;omega)|(refine .inl ?_;simp;done)|(refine .inl ?_;simp;omega)))
def FNa:AV:=.fn (.func 133) [] [.ref 0 0 0]
set_option maxHeartbeats 1000000 in
theorem a5H (t:Bool) (p:Int) (l:List App) (hl:l.length<2^63):aW Tryz.prog 75 [.sl t 14 (l.map APP),FNa] [.box [.int .i64 p]] fun y G=>y= .int .i64 (uK (idA p) l)/\G=[.box [.int .i64 p]]:=by
 refine zL a4X (by simp) rfl ?_
 unfold a4F FNa
 refine Wa ?_
 unfold a2L
 refine Wa ?_
 refine aF (σ:=Nat) (fun i=>⟨[(0,.sl t 14 (l.map APP)),(1,.fn (.func 133) [] [.ref 0 0 0]),(7,.int .i64 (l.length:Int)),(8,.int .i64 (i:Int))],[.box [.int .i64 p]]⟩)
  (fun i=>i<=l.length/\∀ j,(h:j<i)->(h2:j<l.length)->idA p l[j]=false) (fun i=>l.length-i) 0 (.inl rfl) ⟨by omega,fun j h=>by omega⟩ ?_
 rintro i ⟨hii,hn⟩
 unfold a2K
 by_cases hil:i<l.length
 · have hg:l.getD i default=l[i]:=by simp [hil]
   refine Wr ?_
   refine ⟨by omega,by omega,?_⟩
   refine (a4G _ p).to ?_
   rintro y G ⟨rfl,rfl⟩
   rw [hg]
   cases hp:idA p l[i]
   · refine Wa ?_
     refine ⟨i+1,.inl rfl,⟨by omega,fun j h h2=>?_⟩,by omega⟩
     by_cases hj:j=i
     · subst hj;exact hp
     · exact hn j (by omega) h2
   · refine Wa ?_
     rw [aSq hil (fun j hj=>hn j hj (by omega)) hp]
 · have:i=l.length:=by omega
   subst this
   refine Wa ?_
   rw [aSp fun j hj=>hn j hj hj]
set_option maxHeartbeats 1000000 in
theorem a6b (t:Bool) (l:List App) (hl:l.length<2^62):aW Tryz.prog 75 [.sl t 14 (l.map APP),.fn (.func 76) [] []] [] fun y G=>y= .int .i64 (uK (fun a=> !live a) l):=by
 have key:aW Tryz.prog 75 [.sl t 14 (l.map APP),.fn (.func 76) [] []] [.dead] fun y G=>y= .int .i64 (uK (fun a=> !live a) l):=by
  refine zL a4X (by simp) rfl ?_
  unfold a4F
  refine Wa ?_
  unfold a2L
  refine Wa ?_
  refine aF (σ:=Nat) (fun i=>⟨[(0,.sl t 14 (l.map APP)),(1,.fn (.func 76) [] []),(7,.int .i64 (l.length:Int)),(8,.int .i64 (i:Int))],[.dead]⟩)
   (fun i=>i<=l.length/\∀ j,(h:j<i)->(h2:j<l.length)->(!live l[j])=false) (fun i=>l.length-i) 0 (.inl rfl) ⟨by omega,fun j h=>by omega⟩ ?_
  rintro i ⟨hii,hn⟩
  unfold a2K
  by_cases hil:i<l.length
  · have hg:l.getD i default=l[i]:=by simp [hil]
    refine Wr ?_
    refine ⟨by omega,by omega,?_⟩
    refine aE (aI.of (aM:=false) (a26 _) (.refl rfl) rfl (by simp)) ?_
    rw [hg]
    cases hp:(!live l[i])
    · refine Wa ?_
      refine ⟨i+1,.inl rfl,⟨by omega,fun j h h2=>?_⟩,by omega⟩
      by_cases hj:j=i
      · subst hj;exact hp
      · exact hn j (by omega) h2
    · refine Wa ?_
      rw [aSq hil (fun j hj=>hn j hj (by omega)) hp]
  · have:i=l.length:=by omega
    subst this
    refine Wa ?_
    rw [aSp fun j hj=>hn j hj hj]
 exact key.pad
def a1S (l:List App):Nat:=(l.filter live).length
set_option maxHeartbeats 1000000 in
theorem a4Q (t:Bool) (l:List App) (hl:l.length<2^62):aT Tryz.prog 73 [.sl t 14 (l.map APP)] (.int .i64 (a1S l)):=by
 unfold aT
 refine aK a5B (by simp) ?_
 unfold a5l
 refine Wa ?_
 unfold a3t
 refine Wa ?_
 refine aF (σ:=Nat) (fun i=>⟨[(3,.int .i64 (a1S (l.take i))),(6,.sl t 14 (l.map APP)),(7,.int .i64 (l.length:Int)),(8,.int .i64 (i:Int))],[]⟩)
  (fun i=>i<=l.length) (fun i=>l.length-i) 0 (.inl rfl) (by omega) ?_
 intro i hii
 unfold a3s
 by_cases hil:i<l.length
 · have hg:l.getD i default=l[i]:=by simp [hil]
   have e1:a1S (l.take (i+1))=a1S (l.take i)+(if live l[i] then 1 else 0):=by
    unfold a1S
    rw [List.take_succ_eq_append_getElem hil,List.filter_append,List.length_append]
    congr 1
    simp only [List.filter_cons,List.filter_nil]
    split<;>rfl
   have hlen:a1S (l.take i)<=i:=by
    unfold a1S
    exact Nat.le_trans (List.length_filter_le _ _) (by simp;omega)
   simp -implicitDefEqProofs(disch:=first|decide|omega)only[↓aA,aC,aB,simprocAttr,x8,a9,hg,List.append_nil]
   refine ⟨by omega,by omega,?_⟩
   refine aE (aI.of (aM:=false) (a2m _) (.refl rfl) rfl (by simp)) ?_
   cases hp:live l[i]
   · rw [hp] at e1
     refine Wa ?_
     refine ⟨i+1,?_,by omega,by omega⟩
     rw [e1]
     exact Sub.ofS []
   · rw [hp] at e1
     refine Wa ?_
     refine ⟨i+1,?_,by omega,by omega⟩
     rw [e1]
     exact Sub.ofS []
 · have:i=l.length:=by omega
   subst this
   rw [List.take_length]
   exact Ta
theorem a5M (s:Sta) (id:Int) (hl:s.apps.length<2^62):aT Tryz.prog 72 [.agg (stC s),.int .i64 id] (.int .i64 (uK (idA id) s.apps)):=by
 unfold aT
 refine aK a5C (by simp) ?_
 unfold a5m stC
 refine Wa ?_
 refine ((a5H false id s.apps (by omega)).fr [1]).to ?_
 rintro y G ⟨y0,Hr,⟨rfl,rfl⟩,rfl,rfl⟩
 simp -implicitDefEqProofs(disch:=first|decide|omega)only[↓aA,aC,aB,simprocAttr,x8,AV.ren,AO.ren,spl,j8]
def stO (s:Sta):List AV:=[.sl false 1 (s.labels.map .str),.sl true 3 (s.qs.map QUE),.sl false 8 (s.nodes.map bO),.sl true 14 (s.apps.map APP),.sl true 9 (s.conts.map bY),.sl true 3 (s.slots.map gW),.sl false 6 (s.plans.map eD),.int .i64 s.now,.int .i64 s.ep,.int .i64 s.sq]
theorem a6d (s:Sta) (id:Int) (hl:s.apps.length<2^62):aT Tryz.prog 72 [.agg (stO s),.int .i64 id] (.int .i64 (uK (idA id) s.apps)):=by
 unfold aT
 refine aK a5C (by simp) ?_
 unfold a5m stO
 refine Wa ?_
 refine ((a5H true id s.apps (by omega)).fr [1]).to ?_
 rintro y G ⟨y0,Hr,⟨rfl,rfl⟩,rfl,rfl⟩
 simp -implicitDefEqProofs(disch:=first|decide|omega)only[↓aA,aC,aB,simprocAttr,x8,AV.ren,AO.ren,spl,j8]
abbrev oj (d:Nat) (c:CO):aP:=⟨some d,c,none⟩
abbrev pj (d g:Nat) (c:CO):aP:=⟨some d,c,some (g,true)⟩
abbrev nj (c:CO):aP:=⟨none,c,none⟩
abbrev tj (k:Nat):Operand:=.tmp k
abbrev mj (k:Nat):CO:=.mv (.tmp k)
def R74:{c:CC // aJ Tryz.prog 74=c}:=⟨_,by conv=>lhs;reduce⟩
def S74:{c:CC // bA Tryz.prog 74 { fs:=false } R74.1 []=c}:=⟨_,by conv=>lhs;reduce⟩
def a5k:CC:=(fun (c:CC) (_:(S74.1)=c)=>c) _ (by conv=>lhs;reduce)
theorem a5A:aZ Tryz.prog 74 a5k [4] 21:=aZ.of Tryz.f74 Tryz.func74 rfl
def R78:{c:CC // aJ Tryz.prog 78=c}:=⟨_,by conv=>lhs;reduce⟩
def S78:{c:CC // bA Tryz.prog 78 { fs:=false } R78.1 []=c}:=⟨_,by conv=>lhs;reduce⟩
def a5h:CC:=(fun (c:CC) (_:(S78.1)=c)=>c) _ (by conv=>lhs;reduce)
theorem a5x:aZ Tryz.prog 78 a5h [2] 13:=aZ.of Tryz.f78 Tryz.func78 rfl
def a58:{c:CC // aJ Tryz.prog 134=c}:=⟨_,by conv=>lhs;reduce⟩
def a5T:{c:CC // bA Tryz.prog 134 { fs:=false } a58.1 []=c}:=⟨_,by conv=>lhs;reduce⟩
def a3D:CC:=(fun (c:CC) (_:(a5T.1)=c)=>c) _ (by conv=>lhs;reduce)
theorem a3l:aX Tryz.prog 134 a3D [.ce 4 72 3 true,.tm 5] 25:=aX.of Tryz.f134 Tryz.func134 rfl ⟨by kernel_rfl,trivial⟩
def a57:{c:CC // aJ Tryz.prog 135=c}:=⟨_,by conv=>lhs;reduce⟩
def a4N:{c:CC // bA Tryz.prog 135 { fs:=false } a57.1 []=c}:=⟨_,by conv=>lhs;reduce⟩
def a2Y:CC:=(fun (c:CC) (_:(a4N.1.aV [1,1,0,1,0,0])=c)=>c) _ (by conv=>lhs;reduce)
def a2Z:CC:=(fun (c:CC->CC) (_:(fun a0=>(a4N.1.aV [1,1,0,1]).aU [0,0] a0)=c)=>c) _ (by conv=>lhs;reduce) a2Y
def a4j:CC:=(fun (c:CC->CC) (_:(fun a0=>(a4N.1).aU [1,1,0,1] a0)=c)=>c) _ (by conv=>lhs;reduce) a2Z
theorem a5a:aZ Tryz.prog 135 a4j [4] 36:=aZ.of Tryz.f135 Tryz.func135 rfl
def a56:{c:CC // aJ Tryz.prog 136=c}:=⟨_,by conv=>lhs;reduce⟩
def a4M:{c:CC // bA Tryz.prog 136 { fs:=false } a56.1 []=c}:=⟨_,by conv=>lhs;reduce⟩
def a2W:CC:=(fun (c:CC) (_:(a4M.1.aV [1,1,1,1,1,1,0,0,0])=c)=>c) _ (by conv=>lhs;reduce)
def a2X:CC:=(fun (c:CC->CC) (_:(fun a0=>(a4M.1.aV [1,1,1,1,1,1,0]).aU [0,0] a0)=c)=>c) _ (by conv=>lhs;reduce) a2W
def a4i:CC:=(fun (c:CC->CC) (_:(fun a0=>(a4M.1).aU [1,1,1,1,1,1,0] a0)=c)=>c) _ (by conv=>lhs;reduce) a2X
theorem a49:aZ Tryz.prog 136 a4i [4,5] 41:=aZ.of Tryz.f136 Tryz.func136 rfl
def a54:{c:CC // aJ Tryz.prog 162=c}:=⟨_,by conv=>lhs;reduce⟩
def a4L:{c:CC // bA Tryz.prog 162 { gc:=1,fs:=false } a54.1 []=c}:=⟨_,by conv=>lhs;reduce⟩
def a2U:CC:=(fun (c:CC) (_:(a4L.1.aV [1,0,1,0,0])=c)=>c) _ (by conv=>lhs;reduce)
def a2V:CC:=(fun (c:CC->CC) (_:(fun a0=>(a4L.1.aV [1,0,1]).aU [0,0] a0)=c)=>c) _ (by conv=>lhs;reduce) a2U
def a4f:CC:=(fun (c:CC->CC) (_:(fun a0=>(a4L.1).aU [1,0,1] a0)=c)=>c) _ (by conv=>lhs;reduce) a2V
theorem a46:aZ Tryz.prog 162 a4f [4] 19:=aZ.of Tryz.f162 Tryz.func162 rfl
def a53:{c:CC // aJ Tryz.prog 163=c}:=⟨_,by conv=>lhs;reduce⟩
def a5R:{c:CC // bA Tryz.prog 163 { fs:=false } a53.1 []=c}:=⟨_,by conv=>lhs;reduce⟩
def a4e:CC:=(fun (c:CC) (_:(a5R.1)=c)=>c) _ (by conv=>lhs;reduce)
theorem a45:aZ Tryz.prog 163 a4e [3] 8:=aZ.of Tryz.f163 Tryz.func163 rfl
def a52:{c:CC // aJ Tryz.prog 164=c}:=⟨_,by conv=>lhs;reduce⟩
def a5Q:{c:CC // bA Tryz.prog 164 { fs:=false } a52.1 []=c}:=⟨_,by conv=>lhs;reduce⟩
def a4d:CC:=(fun (c:CC) (_:(a5Q.1)=c)=>c) _ (by conv=>lhs;reduce)
theorem a44:aZ Tryz.prog 164 a4d [2,3] 12:=aZ.of Tryz.f164 Tryz.func164 rfl
def a3W:CC:=(fun (c:CC) (_:((.seq (.seq (.reg [oj 16 (mj 6),oj 17 (mj 0),oj 18 (.lenl (tj 17)),oj 19 (.bin .lss (tj 16) (tj 18))] false [] (some [0,1,5,6,19])) (.cond (tj 19) .skip (.exit 0))) (.seq (.block (some [0,1,5,6]) 1 (.seq (.reg [oj 22 (mj 0),oj 23 (mj 6),oj 24 (.iad 8 (tj 22) (tj 23)),oj 25 (.ld 8 true (tj 24)),oj 7 (.al [(.int .i64 0),(.int .i64 0),(.int .i64 0),(.int .i64 0),(.int .i64 0),(.int .i64 0),(.int .i64 0),(.int .i64 0)]),nj (.st 8 (tj 7) (tj 25))] false [] (some [0,1,5,6,7])) (.seq (.reg [oj 26 (mj 1),oj 27 (.ld 8 true (tj 7)),oj 28 (.calv (tj 26) [(tj 27)]),oj 29 (.un .not (tj 28))] false [] (some [0,1,5,6,7,29])) (.cond (tj 29) (.seq (.reg [oj 30 (mj 0),oj 31 (mj 5),oj 32 (.ld 8 true (tj 7)),oj 33 (.iad 8 (tj 30) (tj 31)),nj (.st 8 (tj 33) (tj 32))] false [] (some [0,1,5,6])) (.reg [oj 34 (mj 5),oj 35 (.bin .add (tj 34) (.const (.int .i64 1))),oj 5 (mj 35)] false [] (some [0,1,5,6]))) .skip)))) (.reg [oj 20 (mj 6),oj 21 (.bin .add (tj 20) (.const (.int .i64 1))),oj 6 (mj 21)] false [] (some [0,1,5,6])))))=c)=>c) _ (by conv=>lhs;reduce)
def a3X:CC:=(fun (c:CC->CC) (_:(fun a0=>(.block (some [0,5]) 0 (.loop 2 (some [0,1,5,6]) a0)))=c)=>c) _ (by conv=>lhs;reduce) a3W
def a4c:CC:=(fun (c:CC->CC) (_:(fun a0=>(.seq (.reg [oj 4 (.mv (.const (.slice none 0 0)))] false [] (some [0,1])) (.seq (.reg [oj 8 (mj 0),oj 9 (mj 1),oj 10 (.call 187 [(tj 8),(tj 9)]),oj 5 (mj 10)] false [] (some [0,1,5])) (.seq (.seq (.reg [oj 11 (mj 5),oj 12 (.bin .eql (tj 11) (.const (.int .i64 (-1))))] false [] (some [0,1,5,12])) (.cond (tj 12) (.seq (.reg [oj 13 (mj 0),oj 4 (mj 13)] false [] (some [4])) .ret) .skip)) (.seq (.seq (.reg [oj 14 (mj 5),oj 15 (.bin .add (tj 14) (.const (.int .i64 1))),oj 6 (mj 15)] false [] (some [0,1,5,6])) a0) (.seq (.reg [oj 36 (mj 0),oj 37 (mj 5),oj 38 (.slc 8 (tj 36) (some (tj 37)) none),nj (.clr 8 (.agg [(.int .i64 0),(.int .i64 0),(.int .i64 0),(.int .i64 0),(.int .i64 0),(.int .i64 0),(.int .i64 0),(.int .i64 0)]) (tj 38))] false [] (some [0,5])) (.seq (.reg [oj 39 (mj 0),oj 40 (mj 5),oj 41 (.slc 8 (tj 39) none (some (tj 40))),oj 4 (mj 41)] false [] (some [4])) .ret)))))))=c)=>c) _ (by conv=>lhs;reduce) a3X
theorem a43:aZ Tryz.prog 165 a4c [4] 42:=aZ.of Tryz.f165 Tryz.func165 rfl
def a4b:CC:=(fun (c:CC) (_:((.seq (.reg [oj 2 (.mv (.const (.slice none 0 0)))] false [] (some [0])) (.seq (.reg [oj 4 (mj 0),oj 5 (.lenl (tj 4)),oj 6 (.mks 8 64 (.agg [(.int .i64 0),(.int .i64 0),(.int .i64 0),(.int .i64 0),(.int .i64 0),(.int .i64 0),(.int .i64 0),(.int .i64 0)]) (tj 5) (tj 5)),oj 3 (mj 6)] false [] (some [0,3])) (.seq (.reg [oj 7 (mj 3),oj 8 (mj 0),oj 9 (.cpy 8 (tj 7) (tj 8))] false [] (some [3])) (.seq (.reg [oj 10 (mj 3),oj 2 (mj 10)] false [] (some [2])) .ret)))))=c)=>c) _ (by conv=>lhs;reduce)
theorem a42:aZ Tryz.prog 166 a4b [2] 11:=aZ.of Tryz.f166 Tryz.func166 rfl
def a5Z:{c:CC // aJ Tryz.prog 168=c}:=⟨_,by conv=>lhs;reduce⟩
def a5O:{c:CC // bA Tryz.prog 168 { fs:=false } a5Z.1 []=c}:=⟨_,by conv=>lhs;reduce⟩
def a4a:CC:=(fun (c:CC) (_:(a5O.1)=c)=>c) _ (by conv=>lhs;reduce)
theorem a41:aZ Tryz.prog 168 a4a [6] 95:=aZ.of Tryz.f168 Tryz.func168 rfl
def a5Y:{c:CC // aJ Tryz.prog 186=c}:=⟨_,by conv=>lhs;reduce⟩
def a5N:{c:CC // bA Tryz.prog 186 { fs:=false } a5Y.1 []=c}:=⟨_,by conv=>lhs;reduce⟩
def a39:CC:=(fun (c:CC) (_:(a5N.1)=c)=>c) _ (by conv=>lhs;reduce)
theorem a40:aZ Tryz.prog 186 a39 [4] 36:=aZ.of Tryz.f186 Tryz.func186 rfl
def a5X:{c:CC // aJ Tryz.prog 187=c}:=⟨_,by conv=>lhs;reduce⟩
def a4J:{c:CC // bA Tryz.prog 187 { gc:=2,fs:=false } a5X.1 []=c}:=⟨_,by conv=>lhs;reduce⟩
def a2S:CC:=(fun (c:CC) (_:(a4J.1.aV [1,0,1,0,0])=c)=>c) _ (by conv=>lhs;reduce)
def a2T:CC:=(fun (c:CC->CC) (_:(fun a0=>(a4J.1.aV [1,0,1]).aU [0,0] a0)=c)=>c) _ (by conv=>lhs;reduce) a2S
def a38:CC:=(fun (c:CC->CC) (_:(fun a0=>(a4J.1).aU [1,0,1] a0)=c)=>c) _ (by conv=>lhs;reduce) a2T
theorem a4Z:aZ Tryz.prog 187 a38 [4] 19:=aZ.of Tryz.f187 Tryz.func187 rfl
def a5W:{c:CC // aJ Tryz.prog 207=c}:=⟨_,by conv=>lhs;reduce⟩
def a4I:{c:CC // bA Tryz.prog 207 { fs:=false } a5W.1 []=c}:=⟨_,by conv=>lhs;reduce⟩
def a2Q:CC:=(fun (c:CC) (_:(a4I.1.aV [1,0,1,0,0])=c)=>c) _ (by conv=>lhs;reduce)
def a2R:CC:=(fun (c:CC->CC) (_:(fun a0=>(a4I.1.aV [1,0,1]).aU [0,0] a0)=c)=>c) _ (by conv=>lhs;reduce) a2Q
def a37:CC:=(fun (c:CC->CC) (_:(fun a0=>(a4I.1).aU [1,0,1] a0)=c)=>c) _ (by conv=>lhs;reduce) a2R
theorem a4Y:aZ Tryz.prog 207 a37 [4] 19:=aZ.of Tryz.f207 Tryz.func207 rfl
end Go.Proofs.YtakemdamegfcfaaGreat
