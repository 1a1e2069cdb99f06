/- A part of a proof: what functions of the program compute. No condition. -/
import Derived.Test.YtakemdamegfcfaaGreatT41
import Derived.Test.YtakemdamegfcfaaGreatT36
import Derived.Test.YtakemdamegfcfaaGreatProg
import Derived.KernelRfl
import Derived.Test.YtakemdamegfcfaaGreatT6
import Derived.Test.YtakemdamegfcfaaGreatT10
import Derived.Test.YtakemdamegfcfaaGreatT38
import Derived.Test.YtakemdamegfcfaaGreatT33
set_option linter.unusedSimpArgs false
set_option linter.unusedVariables false
set_option maxHeartbeats 16000000
set_option maxRecDepth 100000
namespace Go.Proofs.YtakemdamegfcfaaGreat
open Go Go.Ab
def uJ (k:Nat) (x:Node) (l:List Node):List Node:=l.take k++x :: l.drop k
set_option maxHeartbeats 4000000 in
theorem aSf (l:List Node) (Z:List AV) (x:Node) (k:Nat) (hk:k<=l.length) (hl:l.length+Z.length<=2^40):aW Tryz.prog 62 [.own 0 8 0 l.length,.int .i64 k,.own 1 8 0 1] [.arr 8 (l.map bO++Z),.arr 8 [bO x]] fun y G=>y= .sl false 8 ((uJ k x l).map bO):=by
 refine zL aYU (by simp) rfl ?_
 unfold aXv
 have hle:l.length<=l.length+Z.length:=by omega
 have htk:(l.map bO++Z).take l.length=l.map bO:=by rw [List.take_left'];simp
 by_cases hkl:k=l.length
 · subst hkl
   have e:uJ l.length x l=l++[x]:=by simp [uJ]
   simp -implicitDefEqProofs(disch:=first|decide|omega)only[↓aA,aC,aB,simprocAttr,kZ,hle,htk]
   refine ⟨by omega,⟨by omega,by omega⟩,?_⟩
   rw [e,List.take_of_length_le (by simp),List.map_append]
   rfl
 · have hne:¬ ((k:Int)=(l.length:Int)):=by omega
   have ht1:((l.length:Int)+1).toNat=l.length+1:=by omega
   have ht2:((k:Int)+1).toNat=k+1:=by omega
   have ht3:((l.length:Int)+1-(k:Int)).toNat=l.length+1-k:=by omega
   simp -implicitDefEqProofs(disch:=first|decide|omega)only[↓aA,aC,aB,simprocAttr,kZ,hle,htk]
   refine ⟨by omega,by omega,fun c hc hcz=>?_⟩
   have hwl:(Z++List.replicate (c-(l.length+Z.length)) (lZ 8)).length=Z.length+(c-(l.length+Z.length)):=by simp
   rw [List.append_assoc]
   generalize Z++List.replicate (c-(l.length+Z.length)) (lZ 8)=W at hwl ⊢
   have hkw:k<=l.length+W.length:=by omega
   have htk2:(l.map bO++W).take k=(l.take k).map bO:=by rw [List.take_append_of_le_length (by simp;omega),List.map_take]
   have h1:k+(l.length+1-k)=l.length+1:=by omega
   have h2:k+(l.length-k)=l.length:=by omega
   have h5:l.length+1-(k+1)=l.length-k:=by omega
   have h6:l.length<=l.length+W.length:=by omega
   have m1:min k l.length=k:=by omega
   have m2:min 1 (l.length+1-k)=1:=by omega
   have m3:min k (l.length+W.length)=k:=by omega
   have h3:((l.map bO++W).drop k).take (l.length-k)=(l.drop k).map bO:=by rw [List.drop_append_of_le_length (by simp;omega),List.take_append_of_le_length (by simp),List.take_of_length_le (by simp),List.map_drop]
   have lk:((l.take k).map bO).length=k:=by simp;omega
   have r1:∀ z:AV,((l.take k).map bO++List.replicate (l.length+1-k) z).take k=(l.take k).map bO:=fun z=>List.take_left' lk
   have r2:[bO x].take (l.length+1-k)=[bO x]:=List.take_of_length_le (by simp;omega)
   have r4:∀ z:AV,((l.take k).map bO++List.replicate (l.length+1-k) z).drop (k+1)=List.replicate (l.length-k) z:=fun z=>by
    rw [List.drop_append,lk,List.drop_eq_nil_of_le (by omega),List.nil_append,List.drop_replicate]
    congr 1
    omega
   have r6:∀ z:List AV,((l.take k).map bO++[bO x]++z).take (k+1)=(l.take k).map bO++[bO x]:=fun z=>List.take_left' (by rw [List.length_append,lk];rfl)
   have r7:(l.drop k).take (l.length-k)=l.drop k:=List.take_of_length_le (by simp)
   have r8:∀ z:AV,((l.take k).map bO++[bO x]++List.replicate (l.length-k) z).drop (k+1+(l.length-k))=[]:=fun z=>List.drop_eq_nil_of_le (by rw [List.length_append,List.length_append,lk,List.length_replicate];simp)
   have e9:(l.take k).map bO++[bO x]++(l.drop k).map bO=(uJ k x l).map bO:=by simp [uJ]
   by_cases hroom:l.length+1>c
   · have hroom2:(l.length:Int)+1>(c:Int):=by omega
     simp -implicitDefEqProofs(disch:=first|decide|omega)only[↓aA,aC,aB,simprocAttr,kZ,Nat.sub_zero,hkw,htk2,ht1,ht2,ht3,h1,h2,h3,h5,h6,m1,m2,m3,r1,r2,r4,r6,r7,r8,Nat.min_self]
     rw [if_pos (by omega),List.append_nil,e9,List.take_of_length_le (by simp [uJ];omega)]
     repeat' first|rfl|omega|apply And.intro
   · have hroom2:¬ ((l.length:Int)+1>(c:Int)):=by omega
     simp -implicitDefEqProofs(disch:=first|decide|omega)only[↓aA,aC,aB,simprocAttr,kZ,Nat.sub_zero,hkw,htk2,ht1,ht2,ht3]
     refine ⟨by omega,by omega,by omega,by omega,?_⟩
     show zN _ _ _ _ _
     refine rZ (H:=[.arr 8 (l.map bO++W),.arr 8 [bO x]]) (z:=8) (i:=1) (j:=0) (f:=127) (fn:=Tryz.f127) (tS:=35) (tR:=4) (el:=29) (l:=[bO x]) (m:=l.map bO++W) Tryz.func127 (by kernel_rfl) (by kernel_rfl) (by kernel_rfl) (by kernel_rfl) Tryz.underlying35 (by kernel_rfl) (by omega) (by omega) (by omega) rfl rfl ?_
     simp -implicitDefEqProofs(disch:=first|decide|omega)only[↓aA,aC,aB,simprocAttr,kZ,Nat.sub_zero,hkw,htk2,ht1,ht2,ht3,h1,h2,h3,h5,h6,m1,m2,m3,r1,r2,r4,r6,r7,r8,Nat.min_self]
     have h7:l.length+1<=l.length+W.length:=by omega
     have m4:min (l.length-k) (l.length+1-k)=l.length-k:=by omega
     have g1:((l.map bO++W).drop k).take (l.length+1-k)=(l.drop k).map bO++W.take 1:=by
      rw [List.drop_append_of_le_length (by simp;omega),List.take_append,List.take_of_length_le (by simp;omega),List.map_drop,List.length_drop,List.length_map]
      congr 2
      omega
     have g2:((l.drop k).map bO++W.take 1).take (l.length-k)=(l.drop k).map bO:=List.take_left' (by simp)
     simp -implicitDefEqProofs(disch:=first|decide|omega)only[↓aA,aC,aB,simprocAttr,kZ,Nat.sub_zero,hkw,htk2,ht1,ht2,ht3,h1,h2,h3,h5,h6,h7,m1,m2,m3,m4,g1,g2,r1,r2,r4,r6,r7,r8,Nat.min_self]
     refine ⟨by omega,by omega,by omega,by omega,by omega,by omega,by omega,by omega,?_⟩
     rw [if_pos (by omega)]
     have lt:(List.take (k+1) (l.map bO++W)).length=k+1:=by rw [List.length_take,List.length_append,List.length_map];omega
     have q1:∀ R:List AV,List.take k (List.take (k+1) (l.map bO++W)++(l.drop k).map bO++R)=(l.take k).map bO:=fun R=>by
      rw [List.append_assoc,List.take_append_of_le_length (by omega),List.take_take,Nat.min_eq_left (by omega)]
      exact htk2
     have q2:∀ R:List AV,List.drop (k+1) (List.take (k+1) (l.map bO++W)++(l.drop k).map bO++R)=(l.drop k).map bO++R:=fun R=>by
      rw [List.append_assoc,List.drop_left' lt]
     rw [q1,q2,<- List.append_assoc,e9,List.take_left' (by simp [uJ];omega)]
theorem n5 (a b:Int) (h:0<=a/\a<=b):aT Tryz.prog 61 [.int .i64 a,.int .i64 b] (.bool true):=by
 unfold aT
 refine aK aVD (by simp) ?_
 unfold aSP
 simp -implicitDefEqProofs(disch:=first|decide|omega)only[↓aA,aC,aB,simprocAttr]
theorem aIk (a b:Int) (h:¬ (0<=a/\a<=b)):aT Tryz.prog 61 [.int .i64 a,.int .i64 b] (.bool false):=by
 unfold aT
 refine aK aVD (by simp) ?_
 unfold aSP
 by_cases h1:0<=a
 · have h2:¬ a<=b:=fun h2=>h ⟨h1,h2⟩
   simp -implicitDefEqProofs(disch:=first|decide|omega)only[↓aA,aC,aB,simprocAttr,h1,h2]
 · simp -implicitDefEqProofs(disch:=first|decide|omega)only[↓aA,aC,aB,simprocAttr,h1]
def stL (s:Sta):List AV:=[.sl false 1 (s.labels.map .str),.sl true 3 (s.qs.map QUE),.sl true 8 (s.nodes.map bO),.sl true 14 (s.apps.map APP),.sl false 9 (s.conts.map bY),.sl false 3 (s.slots.map gW),.sl false 6 (s.plans.map eD),.int .i64 s.now,.int .i64 s.ep,.int .i64 s.sq]
def owS (s:Sta) (i j k:Nat):List AV:=[.sl false 1 (s.labels.map .str),.own i 3 0 s.qs.length,.own j 8 0 s.nodes.length,.own k 14 0 s.apps.length,.sl false 9 (s.conts.map bY),.sl false 3 (s.slots.map gW),.sl false 6 (s.plans.map eD),.int .i64 s.now,.int .i64 s.ep,.int .i64 s.sq]
theorem aMA (s:Sta) (hl:s.nodes.length<2^62) (id:Int):aT Tryz.prog 60 [.agg (stL s),.int .i64 id] (.int .i64 (uK (idP id) s.nodes)):=by
 unfold aT
 refine aK aVE (by simp) ?_
 unfold aSQ stL
 simp -implicitDefEqProofs(disch:=first|decide|omega)only[↓aA,aC,aB,simprocAttr]
 refine nI (aIn true id s.nodes (by omega)) rfl rfl ?_
 rintro y G rfl
 simp -implicitDefEqProofs(disch:=first|decide|omega)only[↓aA,aC,aB,simprocAttr,AV.ren,AO.ren,up]
theorem aNx {H:List AO} {i j k:Nat} {s:Sta} (h1:H[i]?=some (.arr 3 (s.qs.map QUE))) (h2:H[j]?=some (.arr 8 (s.nodes.map bO))) (h3:H[k]?=some (.arr 14 (s.apps.map APP))):Vw true H (.agg (owS s i j k)) (.agg (stL s)):=by
 have e:bor H (.agg (owS s i j k))= .agg (stL s):=by
  simp [bor,l9,owS,stL,rdS,h1,h2,h3,List.take_of_length_le]
 have:=Vw.bor (H:=H) (a:=.agg (owS s i j k)) (by rw [e];rfl)
 rwa [e] at this
set_option maxHeartbeats 16000000 in
theorem aLl (s:Sta) (h:NOk s) (hs:Srt Node.id s.nodes) (n:Node):aT Tryz.prog 17 [.agg (stC s),bO n] (sH (kA s n)):=by
 have hl3:=h.c0.l3
 have hl1:=h.c0.l1
 have hn36:=h.n
 have hown:=aMo s h
 have hat:=aMA s (by omega) n.id
 have bo:=@aNx
 obtain ⟨ls,qs,nodes,apps,conts,slots,plans,now,ep,sq⟩:=s
 unfold aT
 refine aO aVA (by simp) ?_
 unfold aXS sH
 unfold owN at hown
 simp only at hl3 hl1 hn36 hown hs
 simp -implicitDefEqProofs(disch:=first|decide|omega)only[↓aA,aC,aB,simprocAttr,bB,aN]
 refine nI hown rfl rfl ?_
 rintro y G ⟨rfl,rfl⟩
 simp -implicitDefEqProofs(disch:=first|decide|omega)only[↓aA,aC,aB,simprocAttr,AV.ren,AO.ren,up,AV.lG,bB,aN]
 refine aE (aI.of (aM:=true) hat (.cons (bo (s:=⟨ls,qs,nodes,apps,conts,slots,plans,now,ep,sq⟩) (i:=3) (j:=4) (k:=5) rfl rfl rfl) (.cons (Vw.refl rfl) .nil)) rfl (fun _=>rfl)) ?_
 by_cases c1:0<=n.id/\n.id<=999
 case neg =>
  have e:kA ⟨ls,qs,nodes,apps,conts,slots,plans,now,ep,sq⟩ n=(⟨ls,qs,nodes,apps,conts,slots,plans,now,ep,sq⟩,1):=if_pos (by unfold jL;simp only;omega)
  rw [e]
  simp -implicitDefEqProofs(disch:=first|decide|omega)only[↓aA,aC,aB,simprocAttr,bB,aN]
  refine aE (aI.of (aM:=false) (aIk n.id 999 c1) (.refl rfl) rfl (by simp)) ?_
  simp -implicitDefEqProofs(disch:=first|decide|omega)only[↓aA,aC,aB,simprocAttr,bB,aN]
 by_cases c2:0<=n.label/\n.label<=(ls.length:Int)-1
 case neg =>
  have e:kA ⟨ls,qs,nodes,apps,conts,slots,plans,now,ep,sq⟩ n=(⟨ls,qs,nodes,apps,conts,slots,plans,now,ep,sq⟩,1):=if_pos (by unfold jL;simp only;omega)
  rw [e]
  simp -implicitDefEqProofs(disch:=first|decide|omega)only[↓aA,aC,aB,simprocAttr,bB,aN]
  refine aE (aI.of (aM:=false) (n5 n.id 999 c1) (.refl rfl) rfl (by simp)) ?_
  simp -implicitDefEqProofs(disch:=first|decide|omega)only[↓aA,aC,aB,simprocAttr,bB,aN]
  refine aE (aI.of (aM:=false) (aIk n.label _ c2) (.refl rfl) rfl (by simp)) ?_
  simp -implicitDefEqProofs(disch:=first|decide|omega)only[↓aA,aC,aB,simprocAttr,bB,aN]
 by_cases c3:0<=n.rack/\n.rack<=99
 case neg =>
  have e:kA ⟨ls,qs,nodes,apps,conts,slots,plans,now,ep,sq⟩ n=(⟨ls,qs,nodes,apps,conts,slots,plans,now,ep,sq⟩,1):=if_pos (by unfold jL;simp only;omega)
  rw [e]
  simp -implicitDefEqProofs(disch:=first|decide|omega)only[↓aA,aC,aB,simprocAttr,bB,aN]
  refine aE (aI.of (aM:=false) (n5 n.id 999 c1) (.refl rfl) rfl (by simp)) ?_
  simp -implicitDefEqProofs(disch:=first|decide|omega)only[↓aA,aC,aB,simprocAttr,bB,aN]
  refine aE (aI.of (aM:=false) (n5 n.label _ c2) (.refl rfl) rfl (by simp)) ?_
  simp -implicitDefEqProofs(disch:=first|decide|omega)only[↓aA,aC,aB,simprocAttr,bB,aN]
  refine aE (aI.of (aM:=false) (aIk n.rack 99 c3) (.refl rfl) rfl (by simp)) ?_
  simp -implicitDefEqProofs(disch:=first|decide|omega)only[↓aA,aC,aB,simprocAttr,bB,aN]
 by_cases c4:0<=n.mem/\n.mem<=1073741824
 case neg =>
  have e:kA ⟨ls,qs,nodes,apps,conts,slots,plans,now,ep,sq⟩ n=(⟨ls,qs,nodes,apps,conts,slots,plans,now,ep,sq⟩,1):=if_pos (by unfold jL;simp only;omega)
  rw [e]
  simp -implicitDefEqProofs(disch:=first|decide|omega)only[↓aA,aC,aB,simprocAttr,bB,aN]
  refine aE (aI.of (aM:=false) (n5 n.id 999 c1) (.refl rfl) rfl (by simp)) ?_
  simp -implicitDefEqProofs(disch:=first|decide|omega)only[↓aA,aC,aB,simprocAttr,bB,aN]
  refine aE (aI.of (aM:=false) (n5 n.label _ c2) (.refl rfl) rfl (by simp)) ?_
  simp -implicitDefEqProofs(disch:=first|decide|omega)only[↓aA,aC,aB,simprocAttr,bB,aN]
  refine aE (aI.of (aM:=false) (n5 n.rack 99 c3) (.refl rfl) rfl (by simp)) ?_
  simp -implicitDefEqProofs(disch:=first|decide|omega)only[↓aA,aC,aB,simprocAttr,bB,aN]
  refine aE (aI.of (aM:=false) (aIk n.mem 1073741824 c4) (.refl rfl) rfl (by simp)) ?_
  simp -implicitDefEqProofs(disch:=first|decide|omega)only[↓aA,aC,aB,simprocAttr,bB,aN]
 by_cases c5:0<=n.cores/\n.cores<=1073741824
 case neg =>
  have e:kA ⟨ls,qs,nodes,apps,conts,slots,plans,now,ep,sq⟩ n=(⟨ls,qs,nodes,apps,conts,slots,plans,now,ep,sq⟩,1):=if_pos (by unfold jL;simp only;omega)
  rw [e]
  simp -implicitDefEqProofs(disch:=first|decide|omega)only[↓aA,aC,aB,simprocAttr,bB,aN]
  refine aE (aI.of (aM:=false) (n5 n.id 999 c1) (.refl rfl) rfl (by simp)) ?_
  simp -implicitDefEqProofs(disch:=first|decide|omega)only[↓aA,aC,aB,simprocAttr,bB,aN]
  refine aE (aI.of (aM:=false) (n5 n.label _ c2) (.refl rfl) rfl (by simp)) ?_
  simp -implicitDefEqProofs(disch:=first|decide|omega)only[↓aA,aC,aB,simprocAttr,bB,aN]
  refine aE (aI.of (aM:=false) (n5 n.rack 99 c3) (.refl rfl) rfl (by simp)) ?_
  simp -implicitDefEqProofs(disch:=first|decide|omega)only[↓aA,aC,aB,simprocAttr,bB,aN]
  refine aE (aI.of (aM:=false) (n5 n.mem 1073741824 c4) (.refl rfl) rfl (by simp)) ?_
  simp -implicitDefEqProofs(disch:=first|decide|omega)only[↓aA,aC,aB,simprocAttr,bB,aN]
  refine aE (aI.of (aM:=false) (aIk n.cores 1073741824 c5) (.refl rfl) rfl (by simp)) ?_
  simp -implicitDefEqProofs(disch:=first|decide|omega)only[↓aA,aC,aB,simprocAttr,bB,aN]
 have hbad:¬ jL ⟨ls,qs,nodes,apps,conts,slots,plans,now,ep,sq⟩ n:=by unfold jL;simp only;omega
 have hreg:kA ⟨ls,qs,nodes,apps,conts,slots,plans,now,ep,sq⟩ n=(match eH n.id nodes with
  | some x=>if x.up then (⟨ls,qs,nodes,apps,conts,slots,plans,now,ep,sq⟩,7) else (jM ⟨ls,qs,nodes,apps,conts,slots,plans,now,ep,sq⟩ (hE ⟨ls,qs,nodes,apps,conts,slots,plans,now,ep,sq⟩ n),0)
  | none=>if 12<=nodes.length then (⟨ls,qs,nodes,apps,conts,slots,plans,now,ep,sq⟩,4) else (jM ⟨ls,qs,nodes,apps,conts,slots,plans,now,ep,sq⟩ (hE ⟨ls,qs,nodes,apps,conts,slots,plans,now,ep,sq⟩ n),0)):=if_neg hbad
 simp -implicitDefEqProofs(disch:=first|decide|omega)only[↓aA,aC,aB,simprocAttr,bB,aN]
 refine aE (aI.of (aM:=false) (n5 n.id 999 c1) (.refl rfl) rfl (by simp)) ?_
 simp -implicitDefEqProofs(disch:=first|decide|omega)only[↓aA,aC,aB,simprocAttr,bB,aN]
 refine aE (aI.of (aM:=false) (n5 n.label _ c2) (.refl rfl) rfl (by simp)) ?_
 simp -implicitDefEqProofs(disch:=first|decide|omega)only[↓aA,aC,aB,simprocAttr,bB,aN]
 refine aE (aI.of (aM:=false) (n5 n.rack 99 c3) (.refl rfl) rfl (by simp)) ?_
 simp -implicitDefEqProofs(disch:=first|decide|omega)only[↓aA,aC,aB,simprocAttr,bB,aN]
 refine aE (aI.of (aM:=false) (n5 n.mem 1073741824 c4) (.refl rfl) rfl (by simp)) ?_
 simp -implicitDefEqProofs(disch:=first|decide|omega)only[↓aA,aC,aB,simprocAttr,bB,aN]
 refine aE (aI.of (aM:=false) (n5 n.cores 1073741824 c5) (.refl rfl) rfl (by simp)) ?_
 simp -implicitDefEqProofs(disch:=first|decide|omega)only[↓aA,aC,aB,simprocAttr,bB,aN]
 rcases yU (idP n.id) nodes with ⟨e1,e2⟩|⟨i,hi,e1,hp,e2,hn⟩
 · have e3:eH n.id nodes=none:=e2
   rw [e3] at hreg
   simp only at hreg
   rw [e1]
   by_cases h12:12<=nodes.length
   · rw [if_pos h12] at hreg
     rw [hreg]
     simp -implicitDefEqProofs(disch:=first|decide|omega)only[↓aA,aC,aB,simprocAttr,bB,aN,h12]
   · rw [if_neg h12] at hreg
     rw [hreg]
     simp -implicitDefEqProofs(disch:=first|decide|omega)only[↓aA,aC,aB,simprocAttr,bB,aN,h12]
     unfold aJU
     simp -implicitDefEqProofs(disch:=first|decide|omega)only[↓aA,aC,aB,simprocAttr,aN]
     have e:[AV.int .i64 n.id,AV.int .i64 n.label,AV.int .i64 n.rack,AV.int .i64 n.mem,AV.int .i64 n.cores,AV.int .i64 now,AV.int .i64 0,AV.bool true]=cB (hE ⟨ls,qs,nodes,apps,conts,slots,plans,now,ep,sq⟩ n):=rfl
     rw [e]
     have ei:n.id=(hE ⟨ls,qs,nodes,apps,conts,slots,plans,now,ep,sq⟩ n).id:=rfl
     have hne:∀ j,(hj:j<nodes.length)->nodes[j].id≠(hE ⟨ls,qs,nodes,apps,conts,slots,plans,now,ep,sq⟩ n).id:=fun j hj he=>by
      have:=List.find?_eq_none.1 e2 nodes[j] (List.getElem_mem hj)
      rw [<- ei] at he
      simp [idP,he] at this
     unfold jM
     generalize hE ⟨ls,qs,nodes,apps,conts,slots,plans,now,ep,sq⟩ n=x at hne ei ⊢
     refine aF (σ:=Nat) (fun i=>⟨[(2,.ref 0 0 0),(3,.ref 1 0 0),(4,.ref 2 0 0),(7,.int .i64 (i:Int))],[.box [.sl false 1 (ls.map .str),.own 3 3 0 qs.length,.own 4 8 0 nodes.length,.own 5 14 0 apps.length,.sl false 9 (conts.map bY),.sl false 3 (slots.map gW),.sl false 6 (plans.map eD),.int .i64 now,.int .i64 ep,.int .i64 sq],.box (cB x),.box NL,.arr 3 (qs.map QUE),.arr 8 (nodes.map bO),.arr 14 (apps.map APP)]⟩)
      (fun i=>i<=nodes.length/\∀ j,(h:j<i)->(h2:j<nodes.length)->nodes[j].id<x.id) (fun i=>nodes.length-i) 0 (.inl rfl) ⟨by omega,fun j h=>by omega⟩ ?_
     rintro i ⟨hii,hn⟩
     unfold aJT NL
     have fin:∀ K Kp,(∀ o1 o2 G,K (.sl false 8 ((uJ i x nodes).map bO)) ([.box [.sl false 1 (ls.map .str),.own 3 3 0 qs.length,.own 4 8 0 nodes.length,.own 5 14 0 apps.length,.sl false 9 (conts.map bY),.sl false 3 (slots.map gW),.sl false 6 (plans.map eD),.int .i64 now,.int .i64 ep,.int .i64 sq],.box (cB x),.box [.aD,.aD,.aD,.aD,.aD,.aD,.aD,.int .i64 0,.int .i64 0,.int .i64 0],.arr 3 (qs.map QUE),o1,.arr 14 (apps.map APP),o2]++G))->acK Tryz.prog 62 [.own 4 8 0 nodes.length,.int .i64 (i:Int),.own 6 8 0 1] [.box [.sl false 1 (ls.map .str),.own 3 3 0 qs.length,.own 4 8 0 nodes.length,.own 5 14 0 apps.length,.sl false 9 (conts.map bY),.sl false 3 (slots.map gW),.sl false 6 (plans.map eD),.int .i64 now,.int .i64 ep,.int .i64 sq],.box (cB x),.box [.aD,.aD,.aD,.aD,.aD,.aD,.aD,.int .i64 0,.int .i64 0,.int .i64 0],.arr 3 (qs.map QUE),.arr 8 (nodes.map bO),.arr 14 (apps.map APP),.arr 8 [bO x]] K Kp:=by
      intro K Kp hk
      have hc:=aSf nodes [] x i (by omega) (by simp;omega)
      rw [List.append_nil] at hc
      refine (hc.len.frame [4,6] rfl (by simp) (by simp) ?_ rfl).to ?_
      · intro k o hk
        match k,hk with
        | 0,hk=>simp only [List.getElem?_cons_zero,Option.some.injEq] at hk;subst hk;exact ⟨rfl,rfl⟩
        | 1,hk=>simp only [List.getElem?_cons_succ,List.getElem?_cons_zero,Option.some.injEq] at hk;subst hk;exact ⟨rfl,rfl⟩
        | k+2,hk=>simp at hk
      rintro y G ⟨y0,Hr,⟨rfl,hHr⟩,rfl,rfl⟩
      match Hr,hHr with
      | o1 :: o2 :: G,_ =>
      exact hk (o1.ren (ext [4,6] 7)) (o2.ren (ext [4,6] 7)) (G.map (AO.ren (ext [4,6] 7)))
     have hput:(∀ h:i<nodes.length,¬ nodes[i].id<x.id)->eE Node.id x nodes=uJ i x nodes:=fun h2=>by
      rw [lI (k:=i) hii (fun j hj=>hn j hj (by omega)) h2]
      unfold uJ
      split
      · rename_i hi
        rw [if_neg (hne i hi)]
      · rename_i hi
        rw [List.drop_eq_nil_of_le (by omega)]
     by_cases hil:i<nodes.length
     · have hg:nodes.getD i default=nodes[i]:=by simp [hil]
       by_cases hb:nodes[i].id<x.id
       · simp -implicitDefEqProofs(disch:=first|decide|omega)only[↓aA,aC,aB,simprocAttr,aN,hg]
         repeat refine And.intro (by omega) ?_
         refine ⟨i+1,.inl rfl,⟨by omega,fun j h h2=>?_⟩,by omega⟩
         by_cases hj:j=i
         · subst hj;exact hb
         · exact hn j (by omega) h2
       · rw [hput fun _=>hb]
         simp -implicitDefEqProofs(disch:=first|decide|omega)only[↓aA,aC,aB,simprocAttr,aN,hg]
         repeat refine And.intro (by omega) ?_
         refine fin _ _ fun o1 o2 G=>?_
         simp -implicitDefEqProofs(disch:=first|decide|omega)only[↓aA,aC,aB,simprocAttr,List.cons_append,List.nil_append,bB]
     · have:i=nodes.length:=by omega
       subst this
       rw [hput fun h=>absurd h hil]
       simp -implicitDefEqProofs(disch:=first|decide|omega)only[↓aA,aC,aB,simprocAttr,aN]
       refine fin _ _ fun o1 o2 G=>?_
       simp -implicitDefEqProofs(disch:=first|decide|omega)only[↓aA,aC,aB,simprocAttr,List.cons_append,List.nil_append,bB]
 · have e3:eH n.id nodes=some nodes[i]:=e2
   have hg:nodes.getD i default=nodes[i]:=by simp [hi]
   rw [e3] at hreg
   simp only at hreg
   rw [e1]
   cases hu:nodes[i].up
   · rw [if_neg (by simp [hu])] at hreg
     rw [hreg]
     simp -implicitDefEqProofs(disch:=first|decide|omega)only[↓aA,aC,aB,simprocAttr,bB,aN,hg,hu]
     have ex:[AV.int .i64 n.id,AV.int .i64 n.label,AV.int .i64 n.rack,AV.int .i64 n.mem,AV.int .i64 n.cores,AV.int .i64 now,AV.int .i64 0,AV.bool true]=cB (hE ⟨ls,qs,nodes,apps,conts,slots,plans,now,ep,sq⟩ n):=rfl
     have ei:n.id=(hE ⟨ls,qs,nodes,apps,conts,slots,plans,now,ep,sq⟩ n).id:=rfl
     have eid:nodes[i].id=n.id:=by simpa [idP] using hp
     rw [ex,aHI]
     have el:((nodes.set i (hE ⟨ls,qs,nodes,apps,conts,slots,plans,now,ep,sq⟩ n)).map bO).length=nodes.length:=by simp
     rw [el,if_pos (Nat.le_refl _),List.take_of_length_le (by simp)]
     have eput:eE Node.id (hE ⟨ls,qs,nodes,apps,conts,slots,plans,now,ep,sq⟩ n) nodes=nodes.set i (hE ⟨ls,qs,nodes,apps,conts,slots,plans,now,ep,sq⟩ n):=by
      rw [lI (k:=i) (by omega) (fun j hj=>by rw [<- ei,<- eid];exact List.pairwise_iff_getElem.1 hs j i (by omega) hi hj) (fun _=>by rw [<- ei,<- eid];omega),dif_pos hi,if_pos (by rw [<- ei,eid]),List.set_eq_take_append_cons_drop,if_pos hi]
     unfold jM
     simp only [eput]
     exact ⟨by omega,by omega,by omega,by omega,by omega,by omega,rfl,rfl⟩
   · rw [if_pos hu] at hreg
     rw [hreg]
     simp -implicitDefEqProofs(disch:=first|decide|omega)only[↓aA,aC,aB,simprocAttr,bB,aN,hg,hu]
     omega
def aXV:CC:=(.seq (.reg [⟨(some 0),(.mv (.const (.bool false))),none⟩] false [] (some [])) (.seq (.reg [⟨(some 6),(.call 54 []),none⟩,⟨(some 7),(.bld [(.int .i64 0),(.int .i64 0)] [(0,(1,(.const (.int .i64 8)))),(1,(1,(.const (.int .i64 4))))]),none⟩,⟨(some 8),(.bld [(.int .i64 0),(.int .i64 0),(.int .i64 0),(.int .i64 0),(.int .i64 0),(.int .i64 0),(.int .i64 0),(.bool false)] [(0,(1,(.const (.int .i64 3)))),(3,(2,(.tmp 7)))]),none⟩,⟨(some 9),(.call 17 [(.tmp 6),(.tmp 8)]),none⟩,⟨(some 5),(.mv (.tmp 9)),none⟩,⟨(some 10),(.ext 0 (.tmp 5)),none⟩,⟨(some 11),(.ext 1 (.tmp 5)),none⟩,⟨(some 1),(.al [.aD,.aD,.aD,.aD,.aD,.aD,.aD,(.int .i64 0),(.int .i64 0),(.int .i64 0)]),none⟩,⟨none,(.st 10 (.tmp 1) (.tmp 10)),none⟩,⟨(some 2),(.mv (.tmp 11)),none⟩] false [] (some [1,2])) (.seq (.reg [⟨(some 13),(.ld 10 true (.tmp 1)),none⟩,⟨(some 14),(.call 23 [(.tmp 13),(.const (.int .i64 3))]),none⟩,⟨(some 12),(.mv (.tmp 14)),none⟩,⟨(some 15),(.ext 0 (.tmp 12)),none⟩,⟨(some 16),(.ext 1 (.tmp 12)),none⟩,⟨(some 3),(.al [(.int .i64 0),(.int .i64 0),(.int .i64 0),(.int .i64 0),(.int .i64 0),(.int .i64 0),(.int .i64 0),(.bool false)]),none⟩,⟨none,(.st 8 (.tmp 3) (.tmp 15)),none⟩,⟨(some 4),(.mv (.tmp 16)),none⟩] false [] (some [1,2,3,4])) (.seq (.reg [⟨(some 17),(.mv (.tmp 2)),none⟩,⟨(some 18),(.bin .eql (.tmp 17) (.const (.int .i64 0))),none⟩,⟨(some 19),(.mv (.tmp 18)),none⟩,⟨(some 20),(.mv (.tmp 4)),(some (19,true))⟩,⟨(some 21),(.pick (.tmp 19) (.tmp 20) (.const (.bool false))),none⟩,⟨(some 22),(.mv (.tmp 21)),none⟩,⟨(some 23),(.fad 7 (.tmp 3)),(some (22,true))⟩,⟨(some 24),(.ld 1 false (.tmp 23)),(some (22,true))⟩,⟨(some 25),(.pick (.tmp 22) (.tmp 24) (.const (.bool false))),none⟩,⟨(some 26),(.mv (.tmp 25)),none⟩,⟨(some 27),(.fad 6 (.tmp 3)),(some (26,true))⟩,⟨(some 28),(.ld 1 false (.tmp 27)),(some (26,true))⟩,⟨(some 29),(.bin .eql (.tmp 28) (.const (.int .i64 0))),(some (26,true))⟩,⟨(some 30),(.pick (.tmp 26) (.tmp 29) (.const (.bool false))),none⟩,⟨(some 31),(.mv (.tmp 30)),none⟩,⟨(some 32),(.ld 10 true (.tmp 1)),(some (31,true))⟩,⟨(some 33),(.call 21 [(.tmp 32),(.const (.int .i64 3))]),(some (31,true))⟩,⟨(some 34),(.bld [(.int .i64 0),(.int .i64 0)] [(0,(1,(.const (.int .i64 8)))),(1,(1,(.const (.int .i64 4))))]),(some (31,true))⟩,⟨(some 35),(.seq false [(.int .i64 0),(.int .i64 0)] (.tmp 33) (.tmp 34)),(some (31,true))⟩,⟨(some 36),(.pick (.tmp 31) (.tmp 35) (.const (.bool false))),none⟩,⟨(some 0),(.mv (.tmp 36)),none⟩] false [0] (some [0])) .ret))))
theorem aY1:aZ Tryz.prog 13 aXV [0] 37:=aZ.of Tryz.f13 Tryz.func13 rfl
def n3:Node:=⟨3,0,0,8,4,0,0,false⟩
def n3u:Node:=⟨3,0,0,8,4,0,0,true⟩
def aFe:Sta:={ s4 with nodes:=[n3u] }
theorem aUo {a b c d:Int} {K:AV->Prop} (h:K (.bool (a==c&&b==d))):aGO false [.int .i64 0,.int .i64 0] (.agg [.int .i64 a,.int .i64 b]) (.agg [.int .i64 c,.int .i64 d]) K:=⟨_,rfl,by rw [Bool.and_true];exact h⟩
theorem aN4 {a b c d:Int} {K:AV->Prop} (h:K (.bool (!(a==c&&b==d)))):aGO true [.int .i64 0,.int .i64 0] (.agg [.int .i64 a,.int .i64 b]) (.agg [.int .i64 c,.int .i64 d]) K:=⟨_,rfl,by rw [Bool.and_true];exact h⟩
theorem aIe:aT Tryz.prog 13 [] (.bool true):=by
 have k54:=aHS
 have k17:=aLl s4 aMq .nil n3
 have er:kA s4 n3=(aFe,0):=rfl
 rw [er] at k17
 have k23:=xV aFe (by decide) 3
 have ef:eH 3 aFe.nodes=some n3u:=rfl
 rw [ef] at k23
 have k21:=xU aFe (by decide) (by decide) (fun c hc=>by cases hc) (fun n hn=>by rw [List.mem_singleton.1 hn];decide) 3
 have e1:(eY 3 aFe).1=8:=rfl
 have e2:(eY 3 aFe).2=4:=rfl
 rw [e1,e2] at k21
 unfold sH at k17
 unfold dT at k23
 simp only [Option.getD_some,Option.isSome_some] at k23
 unfold aT
 refine aK aY1 (by simp) ?_
 unfold aXV
 simp -implicitDefEqProofs(disch:=first|decide|omega)only[↓aA,aC,aB,simprocAttr,bB]
 refine aE (aI.of (aM:=false) (k54) (.refl rfl) rfl (by simp)) ?_
 simp -implicitDefEqProofs(disch:=first|decide|omega)only[↓aA,aC,aB,simprocAttr,bB]
 refine aE (aI.of (aM:=false) (k17) (.refl rfl) rfl (by simp)) ?_
 simp -implicitDefEqProofs(disch:=first|decide|omega)only[↓aA,aC,aB,simprocAttr,bB]
 refine aE (aI.of (aM:=false) (k23) (.refl rfl) rfl (by simp)) ?_
 have hu:n3u.up=true:=rfl
 have hb:n3u.beat=0:=rfl
 simp -implicitDefEqProofs(disch:=first|decide|omega)only[↓aA,aC,aB,simprocAttr,bB,aN,hu,hb]
 refine aE (aI.of (aM:=false) (k21) (.refl rfl) rfl (by simp)) ?_
 simp -implicitDefEqProofs(disch:=first|decide|omega)only[↓aA,aC,aB,simprocAttr,bB,aN]
 refine aUo ?_
 simp -implicitDefEqProofs(disch:=first|decide|omega)only[↓aA,aC,aB,simprocAttr]

abbrev oz (d:Nat) (c:CO):aP:=⟨some d,c,none⟩
abbrev pz (d g:Nat) (c:CO):aP:=⟨some d,c,some (g,true)⟩
abbrev qz (d g:Nat) (c:CO):aP:=⟨some d,c,some (g,false)⟩
abbrev nz (c:CO):aP:=⟨none,c,none⟩
abbrev tz (k:Nat):Operand:=.tmp k
abbrev mz (k:Nat):CO:=.mv (.tmp k)
def a2M:CC:=(fun (c:CC) (_:((.seq (.reg [oz 51 (.ld 10 true (tz 9)),oz 52 (mz 1),oz 53 (mz 2),oz 54 (.call 30 [(tz 51),(tz 52),(tz 53)]),oz 50 (mz 54),oz 55 (.ext 0 (tz 50)),oz 56 (.ext 1 (tz 50)),oz 11 (.al [.aD,.aD,.aD,.aD,.aD,.aD,.aD,(.int .i64 0),(.int .i64 0),(.int .i64 0)]),nz (.st 10 (tz 11) (tz 55)),oz 12 (mz 56)] false [] (some [1,2,9,11,12])) (.seq (.reg [oz 58 (.ld 10 true (tz 9)),oz 59 (mz 1),oz 60 (mz 2),oz 61 (.call 31 [(tz 58),(tz 59),(tz 60)]),oz 57 (mz 61),oz 62 (.ext 0 (tz 57)),oz 63 (.ext 1 (tz 57)),oz 13 (.al [.aD,.aD,.aD,.aD,.aD,.aD,.aD,(.int .i64 0),(.int .i64 0),(.int .i64 0)]),nz (.st 10 (tz 13) (tz 62)),oz 14 (mz 63)] false [] (some [9,11,12,13,14])) (.seq (.reg [oz 64 (mz 12),oz 65 (mz 14),oz 66 (.bin .eql (tz 64) (tz 65)),oz 67 (mz 66),pz 68 67 (.ld 10 true (tz 11)),pz 69 67 (.ld 10 true (tz 13)),pz 70 67 (.call 19 [(tz 68),(tz 69)]),oz 71 (.pick (tz 67) (tz 70) (.const (.bool false))),oz 72 (mz 71),pz 73 72 (mz 12),pz 74 72 (.bin .eql (tz 73) (.const (.int .i64 0))),pz 75 72 (mz 74),qz 76 75 (.ld 10 true (tz 11)),qz 77 75 (.ld 10 true (tz 9)),qz 78 75 (.call 19 [(tz 76),(tz 77)]),pz 79 72 (.pick (tz 75) (.const (.bool true)) (tz 78)),oz 80 (.pick (tz 72) (tz 79) (.const (.bool false))),oz 8 (mz 80)] false [8] (some [8])) .ret))))=c)=>c) _ (by conv=>lhs;reduce)
def cc6:CC:=(fun (c:CC->CC) (_:(fun a0=>(.seq (.reg [oz 4 (.bx (tz 0)),oz 8 (.mv (.const (.bool false)))] false [] (some [1,2,3,4])) (.seq (.seq (.reg [oz 15 (.call 13 []),oz 16 (.un .not (tz 15))] false [] (some [1,2,3,4,16])) (.cond (tz 16) (.seq (.reg [oz 8 (.mv (.const (.bool false)))] false [8] (some [8])) .ret) .skip)) (.seq (.seq (.reg [oz 17 (.ld 3 true (tz 4)),oz 18 (.call 14 [(tz 17)]),oz 19 (.un .not (tz 18))] false [] (some [1,2,3,4,19])) (.cond (tz 19) (.seq (.reg [oz 8 (.mv (.const (.bool true)))] false [8] (some [8])) .ret) .skip)) (.seq (.reg [oz 20 (.ld 3 true (tz 4)),oz 21 (.call 15 [(tz 20)]),oz 9 (.al [.aD,.aD,.aD,.aD,.aD,.aD,.aD,(.int .i64 0),(.int .i64 0),(.int .i64 0)]),nz (.st 10 (tz 9) (tz 21))] false [] (some [1,2,3,9])) (.seq (.seq (.reg [oz 22 (.fad 2 (tz 9)),oz 23 (.ld 1 false (tz 22)),oz 24 (.lenl (tz 23)),oz 25 (.bin .gtr (tz 24) (.const (.int .i64 0))),oz 26 (mz 25),pz 27 26 (mz 1),pz 28 26 (.bin .rem (tz 27) (.const (.int .i64 3))),pz 29 26 (.bin .gtr (tz 28) (.const (.int .i64 0))),oz 30 (.pick (tz 26) (tz 29) (.const (.bool false)))] false [] (some [1,2,3,9,30])) (.cond (tz 30) (.seq (.sch (.pre [oz 31 (.fad 2 (tz 9)),oz 33 (mz 1),oz 34 (.fad 2 (tz 9)),oz 32 (.ld 1 false (tz 31)),oz 35 (.ld 1 false (tz 34)),oz 36 (.lenl (tz 35))] (.fin [oz 37 (.calf 16 [(tz 33),(tz 36)]),oz 38 (.iad 8 (tz 32) (tz 37)),oz 39 (.ldp 8 true (tz 38)),oz 10 (.al [(.int .i64 0),(.int .i64 0),(.int .i64 0),(.int .i64 0),(.int .i64 0),(.int .i64 0),(.int .i64 0),(.bool false)]),nz (.st 8 (tz 10) (tz 39))]) (.fin [oz 10 (.al [(.int .i64 0),(.int .i64 0),(.int .i64 0),(.int .i64 0),(.int .i64 0),(.int .i64 0),(.int .i64 0),(.bool false)]),oz 37 (.calf 16 [(tz 33),(tz 36)]),oz 38 (.iad 8 (tz 32) (tz 37)),oz 39 (.ld 8 true (tz 38)),nz (.st 8 (tz 10) (tz 39))])) [31,33,34,36,38,39,38] [] (some [2,3,9,10])) (.seq (.reg [oz 40 (.fad 0 (tz 10)),oz 41 (.ld 1 false (tz 40)),oz 1 (mz 41)] false [] (some [1,2,3,9,10])) (.seq (.reg [oz 42 (mz 3),oz 43 (.bin .rem (tz 42) (.const (.int .i64 4))),oz 44 (.bin .gtr (tz 43) (.const (.int .i64 0)))] false [] (some [1,2,3,9,10,44])) (.cond (tz 44) (.reg [oz 45 (.fad 6 (tz 10)),oz 46 (.ld 1 false (tz 45)),oz 47 (mz 3),oz 48 (.bin .rem (tz 47) (.const (.int .i64 3))),oz 49 (.bin .add (tz 46) (tz 48)),oz 2 (mz 49)] false [] (some [1,2,9])) .skip)))) .skip)) a0))))))=c)=>c) _ (by conv=>lhs;reduce) a2M
theorem is6:aZ Tryz.prog 6 cc6 [8] 81:=aZ.of Tryz.f6 Tryz.func6 rfl
end Go.Proofs.YtakemdamegfcfaaGreat
