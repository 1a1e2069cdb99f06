/- A part of a proof: what functions of the program compute. No condition. -/
import Derived.Test.YtakemdamegfcfaaGreatU37
import Derived.Test.YtakemdamegfcfaaGreatU40
import Derived.Test.YtakemdamegfcfaaGreatU39
import Derived.Test.YtakemdamegfcfaaGreatT36
set_option linter.unusedSimpArgs false
set_option linter.unusedVariables false
set_option maxRecDepth 20000
namespace Go.Proofs.YtakemdamegfcfaaGreat
open Go Go.Ab
theorem a4s:aW Tryz.prog 166 [.aD] [] fun y G=>y= .own 0 8 0 0/\G=[.arr 8 []]:=by
 refine aK a42 (by simp) ?_
 unfold a4b
 simp -implicitDefEqProofs(disch:=first|decide|omega)only[↓aA,aC,aB,simprocAttr,x8]
def a20:AV:=.fn (.func 167) [] [.ref 0 0 0]
theorem a4B (a:Ask):aW Tryz.prog 187 [.own 1 8 0 0,a20] [.box (fC a),.arr 8 []] fun y G=>y= .int .i64 (-1)/\G=[.box (fC a),.arr 8 []]:=by
 refine zL a4Z (by simp) rfl ?_
 unfold a38 a20
 simp -implicitDefEqProofs(disch:=first|decide|omega)only[↓aA,aC,aB,simprocAttr,x8]
 unfold a2T
 simp -implicitDefEqProofs(disch:=first|decide|omega)only[↓aA,aC,aB,simprocAttr,x8]
 refine aF (σ:=Unit) (fun _=>⟨[(0,.own 1 8 0 0),(1,.fn (.func 167) [] [.ref 0 0 0]),(7,.int .i64 0),(8,.int .i64 0)],[.box (fC a),.arr 8 []]⟩) (fun _=>True) (fun _=>0) () (.inl rfl) trivial ?_
 intro _ _
 unfold a2S
 simp -implicitDefEqProofs(disch:=first|decide|omega)only[↓aA,aC,aB,simprocAttr,x8]
theorem a4C (a:Ask):aW Tryz.prog 165 [.own 1 8 0 0,a20] [.box (fC a),.arr 8 []] fun y G=>y= .own 1 8 0 0/\G=[.box (fC a),.arr 8 []]:=by
 refine zL a43 (by simp) rfl ?_
 unfold a4c a20
 simp -implicitDefEqProofs(disch:=first|decide|omega)only[↓aA,aC,aB,simprocAttr,x8]
 refine (a4B a).to ?_
 rintro y G ⟨rfl,rfl⟩
 simp -implicitDefEqProofs(disch:=first|decide|omega)only[↓aA,aC,aB,simprocAttr,x8]
theorem a4A (x:Ask):aW Tryz.prog 168 [.own 0 8 0 0,.int .i64 0,.own 1 8 0 1] [.arr 8 [],.arr 8 [ASK x]] fun y G=>y= .sl false 8 [ASK x]:=by
 refine zL a41 (by simp) rfl ?_
 unfold a4a
 simp -implicitDefEqProofs(disch:=first|decide|omega)only[↓aA,aC,aB,simprocAttr,x8]
theorem a4n (a:Ask) (h:a.count≠0):aT Tryz.prog 136 [.aD,ASK a] (.tup [.sl false 8 [ASK { a with missed:=0 }],.int .i64 0]):=by
 unfold aT
 refine aK a49 (by simp) ?_
 unfold a4i
 simp -implicitDefEqProofs(disch:=first|decide|omega)only[↓aA,aC,aB,simprocAttr,x8,bF]
 refine nI a4s rfl rfl ?_
 rintro y G ⟨rfl,rfl⟩
 simp -implicitDefEqProofs(disch:=first|decide|omega)only[↓aA,aC,aB,simprocAttr,x8,AV.ren,AO.ren,up]
 refine (a4C a).to ?_
 rintro y G ⟨rfl,rfl⟩
 simp -implicitDefEqProofs(disch:=first|decide|omega)only[↓aA,aC,aB,simprocAttr,x8,bF]
 unfold a2X
 simp -implicitDefEqProofs(disch:=first|decide|omega)only[↓aA,aC,aB,simprocAttr,x8]
 generalize hx:({ prio:=a.prio,label:=a.label,mem:=a.mem,cores:=a.cores,count:=a.count,node:=a.node,rack:=a.rack,missed:=0 }:Ask)=x
 refine aF (σ:=Unit) (fun _=>⟨[(3,.ref 0 0 0),(6,.own 1 8 0 0),(7,.int .i64 0)],[.box (fC x),.arr 8 []]⟩) (fun _=>True) (fun _=>0) () (.inl rfl) trivial ?_
 intro _ _
 unfold a2W
 simp -implicitDefEqProofs(disch:=first|decide|omega)only[↓aA,aC,aB,simprocAttr,x8,bF,List.append_nil]
 refine ((a4A x).frame [1,2] rfl (by simp) (by simp) ?_ rfl).to ?_
 · intro k o hk
   match k,hk with
   | 0,hk=>simp only [List.getElem?_cons_zero,Option.some.injEq] at hk;subst hk;exact ⟨rfl,rfl⟩
   | 1,hk=>simp only [List.getElem?_cons_succ,List.getElem?_cons_zero,Option.some.injEq] at hk;subst hk;exact ⟨rfl,rfl⟩
   | k+2,hk=>simp at hk
 rintro y G ⟨y0,Hr,rfl,rfl,rfl⟩
 simp -implicitDefEqProofs(disch:=first|decide|omega)only[↓aA,aC,aB,simprocAttr,x8,AV.ren]
theorem a1T (a:App):aT Tryz.prog 78 [APP a] (.sl false 8 [ASK ⟨0,0,a.mem,a.cores,1,-1,-1,0⟩]):=by
 unfold aT
 refine aK a5x (by simp) ?_
 unfold a5h
 have r:=a4n ⟨0,0,a.mem,a.cores,1,-1,-1,0⟩ (by simp)
 simp only at r
 simp -implicitDefEqProofs(disch:=first|decide|omega)only[↓aA,aC,aB,simprocAttr,x8,a9,bB]
 refine aE (aI.of (aM:=false) (r) (.refl rfl) rfl (by simp)) ?_
 simp -implicitDefEqProofs(disch:=first|decide|omega)only[↓aA,aC,aB,simprocAttr,x8]
def a2k (k:Nat) (x:App) (l:List App):List App:=l.take k++x :: l.drop k
set_option maxHeartbeats 4000000 in
theorem a3T (l:List App) (Z:List AV) (x:App) (k:Nat) (hk:k<=l.length) (hl:l.length+Z.length<=2^36):aW Tryz.prog 137 [.own 0 14 0 l.length,.int .i64 k,.own 1 14 0 1] [.arr 14 (l.map APP++Z),.arr 14 [APP x]] fun y G=>y= .sl false 14 ((a2k k x l).map APP):=by
 refine zL a48 (by simp) rfl ?_
 unfold a4h
 have hle:l.length<=l.length+Z.length:=by omega
 have htk:(l.map APP++Z).take l.length=l.map APP:=by rw [List.take_left'];simp
 by_cases hkl:k=l.length
 · subst hkl
   have e:a2k l.length x l=l++[x]:=by simp [a2k]
   simp -implicitDefEqProofs(disch:=first|decide|omega)only[↓aA,aC,aB,simprocAttr,x8,kZ,hle,htk]
   refine ⟨by omega,⟨by omega,by omega⟩,?_⟩
   rw [e,List.take_of_length_le (by simp),List.map_append]
   rfl
 · have hne:¬ ((k:Int)=(l.length:Int)):=by omega
   have ht1:((l.length:Int)+1).toNat=l.length+1:=by omega
   have ht2:((k:Int)+1).toNat=k+1:=by omega
   have ht3:((l.length:Int)+1-(k:Int)).toNat=l.length+1-k:=by omega
   simp -implicitDefEqProofs(disch:=first|decide|omega)only[↓aA,aC,aB,simprocAttr,x8,kZ,hle,htk]
   refine ⟨by omega,by omega,fun c hc hcz=>?_⟩
   have hwl:(Z++List.replicate (c-(l.length+Z.length)) (lZ 14)).length=Z.length+(c-(l.length+Z.length)):=by simp
   rw [List.append_assoc]
   generalize Z++List.replicate (c-(l.length+Z.length)) (lZ 14)=W at hwl ⊢
   have hkw:k<=l.length+W.length:=by omega
   have htk2:(l.map APP++W).take k=(l.take k).map APP:=by rw [List.take_append_of_le_length (by simp;omega),List.map_take]
   have h1:k+(l.length+1-k)=l.length+1:=by omega
   have h2:k+(l.length-k)=l.length:=by omega
   have h5:l.length+1-(k+1)=l.length-k:=by omega
   have h6:l.length<=l.length+W.length:=by omega
   have m1:min k l.length=k:=by omega
   have m2:min 1 (l.length+1-k)=1:=by omega
   have m3:min k (l.length+W.length)=k:=by omega
   have h3:((l.map APP++W).drop k).take (l.length-k)=(l.drop k).map APP:=by rw [List.drop_append_of_le_length (by simp;omega),List.take_append_of_le_length (by simp),List.take_of_length_le (by simp),List.map_drop]
   have lk:((l.take k).map APP).length=k:=by simp;omega
   have r1:∀ z:AV,((l.take k).map APP++List.replicate (l.length+1-k) z).take k=(l.take k).map APP:=fun z=>List.take_left' lk
   have r2:[APP x].take (l.length+1-k)=[APP x]:=List.take_of_length_le (by simp;omega)
   have r4:∀ z:AV,((l.take k).map APP++List.replicate (l.length+1-k) z).drop (k+1)=List.replicate (l.length-k) z:=fun z=>by
    rw [List.drop_append,lk,List.drop_eq_nil_of_le (by omega),List.nil_append,List.drop_replicate]
    congr 1
    omega
   have r6:∀ z:List AV,((l.take k).map APP++[APP x]++z).take (k+1)=(l.take k).map APP++[APP x]:=fun z=>List.take_left' (by rw [List.length_append,lk];rfl)
   have r7:(l.drop k).take (l.length-k)=l.drop k:=List.take_of_length_le (by simp)
   have r8:∀ z:AV,((l.take k).map APP++[APP x]++List.replicate (l.length-k) z).drop (k+1+(l.length-k))=[]:=fun z=>List.drop_eq_nil_of_le (by rw [List.length_append,List.length_append,lk,List.length_replicate];simp)
   have e9:(l.take k).map APP++[APP x]++(l.drop k).map APP=(a2k k x l).map APP:=by simp [a2k]
   by_cases hroom:l.length+1>c
   · have hroom2:(l.length:Int)+1>(c:Int):=by omega
     simp -implicitDefEqProofs(disch:=first|decide|omega)only[↓aA,aC,aB,simprocAttr,x8,kZ,Nat.sub_zero,hkw,htk2,ht1,ht2,ht3,h1,h2,h3,h5,h6,m1,m2,m3,r1,r2,r4,r6,r7,r8,Nat.min_self]
     rw [if_pos (by omega),List.append_nil,e9,List.take_of_length_le (by simp [a2k];omega)]
     repeat' first|rfl|omega|apply And.intro
   · have hroom2:¬ ((l.length:Int)+1>(c:Int)):=by omega
     simp -implicitDefEqProofs(disch:=first|decide|omega)only[↓aA,aC,aB,simprocAttr,x8,kZ,Nat.sub_zero,hkw,htk2,ht1,ht2,ht3]
     refine ⟨by omega,by omega,by omega,by omega,?_⟩
     show zN _ _ _ _ _
     refine rZ (H:=[.arr 14 (l.map APP++W),.arr 14 [APP x]]) (z:=14) (i:=1) (j:=0) (f:=169) (fn:=Tryz.f169) (tS:=36) (tR:=4) (el:=64) (l:=[APP x]) (m:=l.map APP++W) Tryz.func169 (by kernel_rfl) (by kernel_rfl) (by kernel_rfl) (by kernel_rfl) Tryz.underlying36 (by kernel_rfl) (by omega) (by omega) (by omega) rfl rfl ?_
     simp -implicitDefEqProofs(disch:=first|decide|omega)only[↓aA,aC,aB,simprocAttr,x8,kZ,Nat.sub_zero,hkw,htk2,ht1,ht2,ht3,h1,h2,h3,h5,h6,m1,m2,m3,r1,r2,r4,r6,r7,r8,Nat.min_self]
     have h7:l.length+1<=l.length+W.length:=by omega
     have m4:min (l.length-k) (l.length+1-k)=l.length-k:=by omega
     have g1:((l.map APP++W).drop k).take (l.length+1-k)=(l.drop k).map APP++W.take 1:=by
      rw [List.drop_append_of_le_length (by simp;omega),List.take_append,List.take_of_length_le (by simp;omega),List.map_drop,List.length_drop,List.length_map]
      congr 2
      omega
     have g2:((l.drop k).map APP++W.take 1).take (l.length-k)=(l.drop k).map APP:=List.take_left' (by simp)
     simp -implicitDefEqProofs(disch:=first|decide|omega)only[↓aA,aC,aB,simprocAttr,x8,kZ,Nat.sub_zero,hkw,htk2,ht1,ht2,ht3,h1,h2,h3,h5,h6,h7,m1,m2,m3,m4,g1,g2,r1,r2,r4,r6,r7,r8,Nat.min_self]
     refine ⟨by omega,by omega,by omega,by omega,by omega,by omega,by omega,by omega,?_⟩
     rw [if_pos (by omega)]
     have lt:(List.take (k+1) (l.map APP++W)).length=k+1:=by rw [List.length_take,List.length_append,List.length_map];omega
     have q1:∀ R:List AV,List.take k (List.take (k+1) (l.map APP++W)++(l.drop k).map APP++R)=(l.take k).map APP:=fun R=>by
      rw [List.append_assoc,List.take_append_of_le_length (by omega),List.take_take,Nat.min_eq_left (by omega)]
      exact htk2
     have q2:∀ R:List AV,List.drop (k+1) (List.take (k+1) (l.map APP++W)++(l.drop k).map APP++R)=(l.drop k).map APP++R:=fun R=>by
      rw [List.append_assoc,List.drop_left' lt]
     rw [q1,q2,<- List.append_assoc,e9,List.take_left' (by simp [a2k];omega)]
end Go.Proofs.YtakemdamegfcfaaGreat
