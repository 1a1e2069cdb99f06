/- A part of a proof: what functions of the program compute. No condition. -/
import Derived.Test.YtakemdamegfcfaaGreatT13
import Derived.Test.YtakemdamegfcfaaGreatT12
import Derived.Test.YtakemdamegfcfaaGreatProg
import Derived.KernelRfl
import Derived.Test.YtakemdamegfcfaaGreatT6
import Derived.Test.YtakemdamegfcfaaGreatT10
set_option linter.unusedSimpArgs false
set_option linter.unusedVariables false
set_option maxHeartbeats 16000000
set_option maxRecDepth 100000
namespace Go.Proofs.YtakemdamegfcfaaGreat
open Go Go.Ab
set_option maxHeartbeats 2000000 in
theorem yY (s:Sta) (n:Node) (a:App) (x:Ask) (hc:s.conts.length<2^37) (ha:s.apps.length<2^37) (hk:a.asks.length<2^37) (hm:∀ x∈a.asks,0<=x.count/\x.count<=1000) (hg:a.grants.length<2^40)
 (he:0<=s.ep/\s.ep<=2^20) (hq:0<=s.sq/\s.sq<2^20):aT Tryz.prog 216 [.agg (stC s),bO n,APP a,ASK x] (.tup [.agg (stC (mK s n a x)),bY (jV s n a x)]):=by
 have h1:=aIc a.asks (by omega) x.prio hm
 unfold aT
 refine aO aRM (by simp) ?_
 unfold aOV
 have e20:s.ep*2^min 20 64=s.ep*1048576:=congrArg (s.ep* ·) (by decide)
 have e21:jV s n a x=⟨s.ep*1048576+(s.sq+1),a.id,n.id,x.mem,x.cores,x.prio,n.label,a.state==1,0⟩:=by
  unfold jV
  rw [show (2:Int)^20=1048576 from by decide]
 generalize hcc:jV s n a x=c at e21 ⊢
 have eS:mK s n a x=iJ { s with sq:=s.sq+1,conts:=gH bD.id c s.conts } (dC s n a x):=by unfold mK;rw [hcc];rfl
 simp -implicitDefEqProofs(disch:=first|decide|omega)only[↓aA,aC,aB,simprocAttr,bB,aN,bF,a9,e20]
 repeat refine And.intro (by omega) ?_
 refine aE (aI.of (aM:=false) (h1) (.refl rfl) rfl (by simp)) ?_
 cases hst:decide (a.state=1)
 · have hs1:¬ a.state=1:=by simpa using hst
   simp -implicitDefEqProofs(disch:=first|decide|omega)only[↓aA,aC,aB,simprocAttr,bB,aY,bI,hs1]
   have eb:(a.state==1)=false:=by simpa using hs1
   have eg:dC s n a x={ a with asks:=fQ x.prio a.asks,grants:=a.grants++[c.id] }:=by unfold dC;rw [eb,hcc];rfl
   have ek:List.take (a.grants.length+1) (List.map I64 a.grants++[AV.int IntKind.i64 (s.ep*1048576+(s.sq+1))])=(a.grants++[c.id]).map I64:=by
    rw [List.take_of_length_le (by simp),e21,List.map_append]
    rfl
   have tl:∀ o1 o2 o3:AO,aw Tryz.prog pB (oN [RV.ce 8 41 10 true,RV.ce 9 82 9 true] fun r _=>r= .tup [.agg (stC (mK s n a x)),bY c]) ⟨[(4,.ref 0 0 0),(6,.ref 2 0 0),(8,.ref 4 0 0),(9,.ref 5 0 0),(10,.ref 6 0 0)],[.box [.sl false 1 (s.labels.map .str),.sl false 3 (s.qs.map QUE),.sl false 8 (s.nodes.map bO),.sl false 14 (s.apps.map APP),.sl false 9 (s.conts.map bY),.sl false 3 (s.slots.map gW),.sl false 6 (s.plans.map eD),.int .i64 s.now,.int .i64 s.ep,.int .i64 (s.sq+1)],.box (cB n),.box [.int .i64 a.id,.int .i64 a.state,.str a.queue,.int .i64 a.user,.int .i64 a.prio,.int .i64 a.mem,.int .i64 a.cores,.sl false 8 ((fQ x.prio a.asks).map ASK),.int .i64 a.seen,.int .i64 a.beat,.own 10 1 0 (a.grants.length+1),.sl false 1 (a.kills.map I64),.sl false 1 (a.told.map I64),.sl false 1 (a.lost.map I64)],.box (fC x),.box [.aD,.aD,.aD,.aD,.aD,.aD,.aD,.int .i64 0,.int .i64 0,.int .i64 0],.box [.int .i64 0,.int .i64 0,.int .i64 0,.int .i64 0,.int .i64 0,.int .i64 0,.int .i64 0,.bool false,.int .i64 0],.box [.int .i64 (s.ep*1048576+(s.sq+1)),.int .i64 a.id,.int .i64 n.id,.int .i64 x.mem,.int .i64 x.cores,.int .i64 x.prio,.int .i64 n.label,.bool false,.int .i64 0],o1,o2,o3,.arr 1 (a.grants.map I64++[.int .i64 (s.ep*1048576+(s.sq+1))])]⟩:=by
    intro o1 o2 o3
    unfold pB
    refine Ya ?_
    refine dF 10 rfl ?_
    simp -implicitDefEqProofs(disch:=first|decide|omega)only[↓aA,aC,aB,simprocAttr,AO.fz,AV.fz1,cB,fC]
    rw [ek]
    refine sD ⟨[(4,.ref 0 0 0),(6,.ref 1 0 0),(8,.ref 2 0 0),(9,.ref 3 0 0),(10,.ref 4 0 0),(11,.int .i64 0)],[.box [.sl false 1 (s.labels.map .str),.sl false 3 (s.qs.map QUE),.sl false 8 (s.nodes.map bO),.sl false 14 (s.apps.map APP),.sl false 9 (s.conts.map bY),.sl false 3 (s.slots.map gW),.sl false 6 (s.plans.map eD),.int .i64 s.now,.int .i64 s.ep,.int .i64 (s.sq+1)],.box [.int .i64 a.id,.int .i64 a.state,.str a.queue,.int .i64 a.user,.int .i64 a.prio,.int .i64 a.mem,.int .i64 a.cores,.sl false 8 ((fQ x.prio a.asks).map ASK),.int .i64 a.seen,.int .i64 a.beat,.sl false 1 ((a.grants++[c.id]).map I64),.sl false 1 (a.kills.map I64),.sl false 1 (a.told.map I64),.sl false 1 (a.lost.map I64)],.box [.aD,.aD,.aD,.aD,.aD,.aD,.aD,.int .i64 0,.int .i64 0,.int .i64 0],.box [.int .i64 0,.int .i64 0,.int .i64 0,.int .i64 0,.int .i64 0,.int .i64 0,.int .i64 0,.bool false,.int .i64 0],.box (cE c)]⟩ (by
     rw [e21,eb]
     exact Sub.ofS [some 0,some 2,some 4,some 5,some 6]) ?_
    refine Ya ?_
    unfold wT
    refine Ya ?_
    refine aF (σ:=Nat) (fun k=>⟨[(4,.ref 0 0 0),(6,.ref 1 0 0),(8,.ref 2 0 0),(9,.ref 3 0 0),(10,.ref 4 0 0),(11,.int .i64 (k:Int))],[.box [.sl false 1 (s.labels.map .str),.sl false 3 (s.qs.map QUE),.sl false 8 (s.nodes.map bO),.sl false 14 (s.apps.map APP),.sl false 9 (s.conts.map bY),.sl false 3 (s.slots.map gW),.sl false 6 (s.plans.map eD),.int .i64 s.now,.int .i64 s.ep,.int .i64 (s.sq+1)],.box [.int .i64 a.id,.int .i64 a.state,.str a.queue,.int .i64 a.user,.int .i64 a.prio,.int .i64 a.mem,.int .i64 a.cores,.sl false 8 ((fQ x.prio a.asks).map ASK),.int .i64 a.seen,.int .i64 a.beat,.sl false 1 ((a.grants++[c.id]).map I64),.sl false 1 (a.kills.map I64),.sl false 1 (a.told.map I64),.sl false 1 (a.lost.map I64)],.box [.aD,.aD,.aD,.aD,.aD,.aD,.aD,.int .i64 0,.int .i64 0,.int .i64 0],.box [.int .i64 0,.int .i64 0,.int .i64 0,.int .i64 0,.int .i64 0,.int .i64 0,.int .i64 0,.bool false,.int .i64 0],.box (cE c)]⟩) (fun k=>k<=s.conts.length/\∀ j,(hj:j<k)->(h:j<s.conts.length)->s.conts[j].id<c.id) (fun k=>s.conts.length-k) 0 (.inl rfl) ⟨by omega,fun j hj=>by omega⟩ ?_
    rintro k ⟨hk,hf⟩
    unfold wS
    by_cases hki:k<s.conts.length
    · have hg:s.conts.getD k default=s.conts[k]:=by simp [hki]
      by_cases hp:s.conts[k].id<c.id
      · refine Xc (And.intro hg hp) ?_
        refine ⟨by omega,by omega,dZ ?_⟩
        refine Ya ?_
        exact ⟨k+1,.inl rfl,⟨by omega,fun j hj h=>by
         by_cases hjk:j=k
         · subst hjk;exact hp
         · exact hf j (by omega) h⟩,by omega⟩
      · have e:=j5 (key:=bD.id) (n:=c) hk (fun j hj=>hf j hj (by omega)) (fun _=>hp)
        refine Xc (And.intro hg hp) ?_
        have eL:List.take (min k s.conts.length-0+1+(s.conts.length-k)) (List.take (min k s.conts.length-0+1) (List.map bY (List.take (min k s.conts.length-0) (List.take k s.conts))++[bY c])++List.map bY (List.drop k s.conts))=(gH bD.id c s.conts).map bY:=by
         rw [e]
         simp [List.take_of_length_le,Nat.min_eq_left hk]
         exact List.take_of_length_le (by simp;omega)
        have c44:=gB { s with sq:=s.sq+1,conts:=gH bD.id c s.conts } (by simp only;omega) (dC s n a x)
        rw [eg] at c44
        repeat' (with_reducible apply And.intro)
        all_goals try omega
        all_goals
         rw [eL]
         refine aE (aI.of (aM:=false) (c44) (.refl rfl) rfl (by simp)) ?_
         refine Yc ?_
         rw [eS,eg]
    · have e:=j5 (key:=bD.id) (n:=c) hk (fun j hj=>hf j hj (by omega)) (fun h=>absurd h hki)
      have:k=s.conts.length:=by omega
      subst this
      refine Yc ?_
      have eL:List.take (s.conts.length-0+1) (List.take (s.conts.length-0+1) (List.map bY (List.take (s.conts.length-0) s.conts)++[bY c])++List.map bY (List.drop s.conts.length s.conts))=(gH bD.id c s.conts).map bY:=by
       rw [e]
       simp [List.take_of_length_le,Nat.min_eq_left hk]
      have c44:=gB { s with sq:=s.sq+1,conts:=gH bD.id c s.conts } (by simp only;omega) (dC s n a x)
      rw [eg] at c44
      repeat' (with_reducible apply And.intro)
      all_goals try omega
      all_goals
       rw [eL]
       refine aE (aI.of (aM:=false) (c44) (.refl rfl) rfl (by simp)) ?_
       refine Yc ?_
       rw [eS,eg]
   repeat' (with_reducible apply And.intro)
   all_goals first|omega|exact tl _ _ _
 · have hs1:a.state=1:=by simpa using hst
   have eb:(a.state==1)=true:=by simpa using hs1
   have eg:dC s n a x={ a with state:=2,asks:=[],seen:=s.now,beat:=0 }:=by unfold dC;rw [eb];rfl
   simp -implicitDefEqProofs(disch:=first|decide|omega)only[↓aA,aC,aB,simprocAttr,bB,aY,bI,hs1]
   unfold pB
   refine Ya ?_
   refine sD ⟨[(4,.ref 0 0 0),(6,.ref 1 0 0),(8,.ref 2 0 0),(9,.ref 3 0 0),(10,.ref 4 0 0),(11,.int .i64 0)],[.box [.sl false 1 (s.labels.map .str),.sl false 3 (s.qs.map QUE),.sl false 8 (s.nodes.map bO),.sl false 14 (s.apps.map APP),.sl false 9 (s.conts.map bY),.sl false 3 (s.slots.map gW),.sl false 6 (s.plans.map eD),.int .i64 s.now,.int .i64 s.ep,.int .i64 (s.sq+1)],.box [.int .i64 a.id,.int .i64 2,.str a.queue,.int .i64 a.user,.int .i64 a.prio,.int .i64 a.mem,.int .i64 a.cores,.aD,.int .i64 s.now,.int .i64 0,.sl false 1 (a.grants.map I64),.sl false 1 (a.kills.map I64),.sl false 1 (a.told.map I64),.sl false 1 (a.lost.map I64)],.box [.aD,.aD,.aD,.aD,.aD,.aD,.aD,.int .i64 0,.int .i64 0,.int .i64 0],.box [.int .i64 0,.int .i64 0,.int .i64 0,.int .i64 0,.int .i64 0,.int .i64 0,.int .i64 0,.bool false,.int .i64 0],.box (cE c)]⟩ (by
    rw [e21,eb]
    exact Sub.ofS [some 0,some 2,some 4,some 5,some 6]) ?_
   refine Ya ?_
   unfold wT
   refine Ya ?_
   refine aF (σ:=Nat) (fun k=>⟨[(4,.ref 0 0 0),(6,.ref 1 0 0),(8,.ref 2 0 0),(9,.ref 3 0 0),(10,.ref 4 0 0),(11,.int .i64 (k:Int))],[.box [.sl false 1 (s.labels.map .str),.sl false 3 (s.qs.map QUE),.sl false 8 (s.nodes.map bO),.sl false 14 (s.apps.map APP),.sl false 9 (s.conts.map bY),.sl false 3 (s.slots.map gW),.sl false 6 (s.plans.map eD),.int .i64 s.now,.int .i64 s.ep,.int .i64 (s.sq+1)],.box [.int .i64 a.id,.int .i64 2,.str a.queue,.int .i64 a.user,.int .i64 a.prio,.int .i64 a.mem,.int .i64 a.cores,.aD,.int .i64 s.now,.int .i64 0,.sl false 1 (a.grants.map I64),.sl false 1 (a.kills.map I64),.sl false 1 (a.told.map I64),.sl false 1 (a.lost.map I64)],.box [.aD,.aD,.aD,.aD,.aD,.aD,.aD,.int .i64 0,.int .i64 0,.int .i64 0],.box [.int .i64 0,.int .i64 0,.int .i64 0,.int .i64 0,.int .i64 0,.int .i64 0,.int .i64 0,.bool false,.int .i64 0],.box (cE c)]⟩) (fun k=>k<=s.conts.length/\∀ j,(hj:j<k)->(h:j<s.conts.length)->s.conts[j].id<c.id) (fun k=>s.conts.length-k) 0 (.inl rfl) ⟨by omega,fun j hj=>by omega⟩ ?_
   rintro k ⟨hk,hf⟩
   unfold wS
   by_cases hki:k<s.conts.length
   · have hg:s.conts.getD k default=s.conts[k]:=by simp [hki]
     by_cases hp:s.conts[k].id<c.id
     · refine Xc (And.intro hg hp) ?_
       refine ⟨by omega,by omega,dZ ?_⟩
       refine Ya ?_
       exact ⟨k+1,.inl rfl,⟨by omega,fun j hj h=>by
        by_cases hjk:j=k
        · subst hjk;exact hp
        · exact hf j (by omega) h⟩,by omega⟩
     · have e:=j5 (key:=bD.id) (n:=c) hk (fun j hj=>hf j hj (by omega)) (fun _=>hp)
       refine Xc (And.intro hg hp) ?_
       have eL:List.take (min k s.conts.length-0+1+(s.conts.length-k)) (List.take (min k s.conts.length-0+1) (List.map bY (List.take (min k s.conts.length-0) (List.take k s.conts))++[bY c])++List.map bY (List.drop k s.conts))=(gH bD.id c s.conts).map bY:=by
        rw [e]
        simp [List.take_of_length_le,Nat.min_eq_left hk]
        exact List.take_of_length_le (by simp;omega)
       have c44:=gB { s with sq:=s.sq+1,conts:=gH bD.id c s.conts } (by simp only;omega) (dC s n a x)
       repeat' (with_reducible apply And.intro)
       all_goals try omega
       all_goals
        rw [eL]
        refine aE (aI.of (aM:=false) c44 (.cons (Vw.refl rfl) (.cons (Vw.wk (.inl (.inr ⟨_,_,rfl,rfl,by rw [eg];simp [WkL,Wk1,bI]⟩)) rfl) .nil)) rfl (by simp)) ?_
        refine Yc ?_
        rw [eS]
   · have e:=j5 (key:=bD.id) (n:=c) hk (fun j hj=>hf j hj (by omega)) (fun h=>absurd h hki)
     have:k=s.conts.length:=by omega
     subst this
     refine Yc ?_
     have eL:List.take (s.conts.length-0+1) (List.take (s.conts.length-0+1) (List.map bY (List.take (s.conts.length-0) s.conts)++[bY c])++List.map bY (List.drop s.conts.length s.conts))=(gH bD.id c s.conts).map bY:=by
      rw [e]
      simp [List.take_of_length_le,Nat.min_eq_left hk]
     have c44:=gB { s with sq:=s.sq+1,conts:=gH bD.id c s.conts } (by simp only;omega) (dC s n a x)
     repeat' (with_reducible apply And.intro)
     all_goals try omega
     all_goals
      rw [eL]
      refine aE (aI.of (aM:=false) c44 (.cons (Vw.refl rfl) (.cons (Vw.wk (.inl (.inr ⟨_,_,rfl,rfl,by rw [eg];simp [WkL,Wk1,bI]⟩)) rfl) .nil)) rfl (by simp)) ?_
      refine Yc ?_
      rw [eS]
structure QA (ls:List (List UInt8)) (qs:List Queue):Prop where
 caps:∀ q∈qs,q.caps.length=ls.length
 up:∀ q∈qs,∀ x∈upL q.path,∃ y∈qs,fT x qs=some y
 dots:∀ q∈qs,q.path.count 46<=3/\q.path.length<=60
theorem CT.qz {ls:List (List UInt8)} {qs:List Queue} (hc:CT ls qs):QZ qs:=⟨by have:=hc.q3;omega,fun q hq=>by have:=(hc.qr q hq).path;omega,fun q hq=>by have:=(hc.qr q hq).caps;omega⟩
structure CKK (ls:List (List UInt8)) (qs:List Queue):Prop where
 t:CT ls qs
 w:QA ls qs
 chk:aT Tryz.prog 95 [.agg (bN ls qs)] (.int .i64 0)
 nz:∀ q∈qs,q.path≠[]
abbrev II (B:Nat) (s:Sta):Prop:=Inv CKK iM B s
structure OKS (s:Sta):Prop where
 st:ST s
 w:QA s.labels s.qs
 sz:SZ s
 co:∀ c∈s.conts,okV c.mem c.cores
 no:∀ n∈s.nodes,0<=n.mem/\n.mem<=2^30/\0<=n.cores/\n.cores<=2^30
 ns:∀ n∈s.nodes,0<=n.seen/\n.seen<=1000000000
 sa:∀ a∈s.apps,0<=a.seen/\a.seen<=1000000000
 ak:∀ a∈s.apps,∀ x∈a.asks,jT x
 now:0<=s.now/\s.now<=1000000000
 ep:0<=s.ep/\s.ep<=2^20
 sq:0<=s.sq/\s.sq<2^20
 q:QZ s.qs
theorem xQ {α:Type} {f:α->Int}:∀ {l:List α},l.Pairwise (fun a b=>f a<f b)->(l.map f).Nodup
 | [],_=>by simp
 | x :: r,h=>by
   have h1:=List.pairwise_cons.1 h
   rw [List.map_cons,List.nodup_cons]
   refine ⟨fun hx=>?_,xQ h1.2⟩
   obtain ⟨y,hy,e⟩:=List.mem_map.1 hx
   have:=h1.1 y hy
   omega
theorem u7 {l m:List Int} (h:l.Nodup) (hs:∀ x∈l,x∈m):l.length<=m.length:=by
 induction l generalizing m with
 | nil=>simp
 | cons x r ih =>
   rw [List.nodup_cons] at h
   have hx:x∈m:=hs x (by simp)
   have h2:=ih (m:=m.erase x) h.2 fun y hy=>(List.mem_erase_of_ne (by rintro rfl;exact h.1 hy)).2 (hs y (by simp [hy]))
   rw [List.length_erase_of_mem hx] at h2
   have:=List.length_pos_of_mem hx
   simp only [List.length_cons]
   omega
theorem okS {B:Nat} {s:Sta} (h:II B s) (hB:B<=2^39):OKS s:=by
 have hsl:s.slots.length<=12:=by
  have h1:=u7 (xQ h.sS) (m:=s.nodes.map Node.id) fun x hx=>by
   obtain ⟨y,hy,rfl⟩:=List.mem_map.1 hx
   obtain ⟨n,hn,e,_⟩:=h.sR y hy
   exact List.mem_map.2 ⟨n,hn,e⟩
  rw [List.length_map,List.length_map] at h1
  have:=h.nL
  omega
 have hcL:=h.cL
 have haL:=h.aL
 refine ⟨⟨h.ck.t,h.nL,h.aL,fun a ha=>?_,by omega,hsl,h.pL⟩,h.ck.w,⟨by omega,by omega,by omega,fun a ha=>?_,fun a ha=>?_⟩,fun c hc=>(h.cR c hc).size,fun n hn=>?_,fun n hn=>?_,fun a ha=>?_,fun a ha=>(h.aR a ha).ask,h.now,h.ep,h.sq,?_⟩
 · have:=h.aR a ha
   exact ⟨this.queue,this.asks,by have:=this.gl;unfold wX;omega,by have:=this.kl;unfold wX;omega,by have:=this.tl;unfold wX;omega,by have:=this.ll;unfold wX;omega⟩
 · have:=(h.aR a ha).kl;omega
 · have:=(h.aR a ha).gl;omega
 · have:=h.nR n hn;exact ⟨this.mem.1,this.mem.2,this.cores.1,this.cores.2⟩
 · have:=(h.nR n hn).seen;have:=h.now;omega
 · have:=(h.aR a ha).seen;have:=h.now;omega
 · have hc:=h.ck.t
   exact ⟨by have:=hc.q3;omega,fun q hq=>by have:=(hc.qr q hq).path;omega,fun q hq=>by have:=(hc.qr q hq).caps;omega⟩
theorem fO (a b c d:Int):aT Tryz.prog 205 [.agg [.int .i64 a,.int .i64 b],.agg [.int .i64 c,.int .i64 d]] (.bool (decide (a<=c/\b<=d))):=by
 unfold aT
 refine aK aV3 (by simp) ?_
 unfold aO2
 by_cases h:a<=c
 · simp -implicitDefEqProofs(disch:=first|decide|omega)only[↓aA,aC,aB,simprocAttr,h]
 · simp -implicitDefEqProofs(disch:=first|decide|omega)only[↓aA,aC,aB,simprocAttr,h]
def aI1:CC:=(.seq (.seq (.reg [⟨(some 36),(.mv (.tmp 4)),none⟩,⟨(some 37),(.fad 0 (.tmp 1)),none⟩,⟨(some 38),(.ld 1 false (.tmp 37)),none⟩,⟨(some 39),(.lenl (.tmp 38)),none⟩,⟨(some 40),(.bin .lss (.tmp 36) (.tmp 39)),none⟩] false [] (some [1,4,40])) (.cond (.tmp 40) .skip (.exit 2))) (.seq (.block (some [1,4]) 3 (.seq (.reg [⟨(some 43),(.fad 1 (.tmp 1)),none⟩,⟨(some 44),(.ld 1 false (.tmp 43)),none⟩,⟨(some 45),(.iad 3 (.tmp 44) (.const (.int .i64 0))),none⟩,⟨(some 46),(.fad 1 (.tmp 45)),none⟩,⟨(some 47),(.ld 1 false (.tmp 46)),none⟩,⟨(some 48),(.mv (.tmp 4)),none⟩,⟨(some 49),(.iad 2 (.tmp 47) (.tmp 48)),none⟩,⟨(some 50),(.ld 2 true (.tmp 49)),none⟩,⟨(some 51),(.bld [(.int .i64 0),(.int .i64 0)] [(0,(1,(.const (.int .i64 10000)))),(1,(1,(.const (.int .i64 10000))))]),none⟩,⟨(some 52),(.seq true [(.int .i64 0),(.int .i64 0)] (.tmp 50) (.tmp 51)),none⟩] false [] (some [1,4,52])) (.cond (.tmp 52) (.seq (.reg [⟨(some 2),(.mv (.const (.int .i64 13))),none⟩] false [2] (some [2])) .ret) .skip))) (.reg [⟨(some 41),(.mv (.tmp 4)),none⟩,⟨(some 42),(.bin .add (.tmp 41) (.const (.int .i64 1))),none⟩,⟨(some 4),(.mv (.tmp 42)),none⟩] false [] (some [1,4]))))
def aI3:CC:=(.block (some [1]) 2 (.loop 0 (some [1,4]) aI1))
def aI0:CC:=(.seq (.seq (.reg [⟨(some 22),(.mv (.tmp 3)),none⟩,⟨(some 23),(.fad 1 (.tmp 1)),none⟩,⟨(some 24),(.ld 1 false (.tmp 23)),none⟩,⟨(some 25),(.lenl (.tmp 24)),none⟩,⟨(some 26),(.bin .lss (.tmp 22) (.tmp 25)),none⟩] false [] (some [1,3,26])) (.cond (.tmp 26) .skip (.exit 0))) (.seq (.block (some [1,3]) 1 (.seq (.reg [⟨(some 29),(.ld 2 true (.tmp 1)),none⟩,⟨(some 30),(.mv (.tmp 3)),none⟩,⟨(some 31),(.call 144 [(.tmp 29),(.tmp 30)]),none⟩,⟨(some 32),(.bin .neq (.tmp 31) (.const (.int .i64 0))),none⟩] false [] (some [1,3,32])) (.cond (.tmp 32) (.seq (.reg [⟨(some 33),(.ld 2 true (.tmp 1)),none⟩,⟨(some 34),(.mv (.tmp 3)),none⟩,⟨(some 35),(.call 144 [(.tmp 33),(.tmp 34)]),none⟩,⟨(some 2),(.mv (.tmp 35)),none⟩] false [2] (some [2])) .ret) .skip))) (.reg [⟨(some 27),(.mv (.tmp 3)),none⟩,⟨(some 28),(.bin .add (.tmp 27) (.const (.int .i64 1))),none⟩,⟨(some 3),(.mv (.tmp 28)),none⟩] false [] (some [1,3]))))
def aI2:CC:=(.block (some [1]) 0 (.loop 0 (some [1,3]) aI0))
def aXj:CC:=(.seq (.reg [⟨(some 1),(.bx (.tmp 0)),none⟩,⟨(some 2),(.mv (.const (.int .i64 0))),none⟩] false [] (some [1])) (.seq (.seq (.reg [⟨(some 5),(.ld 2 true (.tmp 1)),none⟩,⟨(some 6),(.call 143 [(.tmp 5)]),none⟩,⟨(some 7),(.bin .neq (.tmp 6) (.const (.int .i64 0))),none⟩] false [] (some [1,7])) (.cond (.tmp 7) (.seq (.reg [⟨(some 8),(.ld 2 true (.tmp 1)),none⟩,⟨(some 9),(.call 143 [(.tmp 8)]),none⟩,⟨(some 2),(.mv (.tmp 9)),none⟩] false [2] (some [2])) .ret) .skip)) (.seq (.seq (.reg [⟨(some 10),(.fad 1 (.tmp 1)),none⟩,⟨(some 11),(.ld 1 false (.tmp 10)),none⟩,⟨(some 12),(.lenl (.tmp 11)),none⟩,⟨(some 13),(.bin .eql (.tmp 12) (.const (.int .i64 0))),none⟩,⟨(some 14),(.mv (.tmp 13)),none⟩,⟨(some 15),(.fad 1 (.tmp 1)),(some (14,false))⟩,⟨(some 16),(.ld 1 false (.tmp 15)),(some (14,false))⟩,⟨(some 17),(.iad 3 (.tmp 16) (.const (.int .i64 0))),(some (14,false))⟩,⟨(some 18),(.fad 0 (.tmp 17)),(some (14,false))⟩,⟨(some 19),(.ld 1 false (.tmp 18)),(some (14,false))⟩,⟨(some 20),(.bin .neq (.tmp 19) (.const (.string ⟨#[114,111,111,116]⟩))),(some (14,false))⟩,⟨(some 21),(.pick (.tmp 14) (.const (.bool true)) (.tmp 20)),none⟩] false [] (some [1,21])) (.cond (.tmp 21) (.seq (.reg [⟨(some 2),(.mv (.const (.int .i64 12))),none⟩] false [2] (some [2])) .ret) .skip)) (.seq (.seq (.reg [⟨(some 3),(.mv (.const (.int .i64 0))),none⟩] false [] (some [1,3])) aI2) (.seq (.seq (.reg [⟨(some 4),(.mv (.const (.int .i64 0))),none⟩] false [] (some [1,4])) aI3) (.seq (.seq (.reg [⟨(some 53),(.ld 2 true (.tmp 1)),none⟩,⟨(some 54),(.call 145 [(.tmp 53)]),none⟩,⟨(some 55),(.un .not (.tmp 54)),none⟩] false [] (some [55])) (.cond (.tmp 55) (.seq (.reg [⟨(some 2),(.mv (.const (.int .i64 13))),none⟩] false [2] (some [2])) .ret) .skip)) (.seq (.reg [⟨(some 2),(.mv (.const (.int .i64 0))),none⟩] false [2] (some [2])) .ret)))))))
theorem aYO:aZ Tryz.prog 95 aXj [2] 56:=aZ.of Tryz.f95 Tryz.func95 rfl
def a1n:{c:CC // aJ Tryz.prog 143=c}:=⟨_,by conv=>lhs;reduce⟩
def aBj:{c:CC // bA Tryz.prog 143 {} a1n.1 []=c}:=⟨_,by conv=>lhs;reduce⟩
def aEf:CC:=(fun (c:CC) (_:(aBj.1.aV [1,1,1,1,0,1,0,0,1,0,0,1,0,0])=c)=>c) _ (by conv=>lhs;reduce)
def aEi:CC:=(fun (c:CC->CC) (_:(fun a0=>(aBj.1.aV [1,1,1,1,0,1,0,0,1,0,0,1]).aU [0,0] a0)=c)=>c) _ (by conv=>lhs;reduce) aEf
def aEe:CC:=(fun (c:CC->CC) (_:(fun a0=>(aBj.1.aV [1,1,1,1,0,1,0,0]).aU [1,0,0,1] a0)=c)=>c) _ (by conv=>lhs;reduce) aEi
def aEh:CC:=(fun (c:CC->CC) (_:(fun a0=>(aBj.1.aV [1,1,1,1,0,1]).aU [0,0] a0)=c)=>c) _ (by conv=>lhs;reduce) aEe
def aEd:CC:=(fun (c:CC) (_:(aBj.1.aV [1,1,1,0,1,0,0])=c)=>c) _ (by conv=>lhs;reduce)
def aEg:CC:=(fun (c:CC->CC) (_:(fun a0=>(aBj.1.aV [1,1,1,0,1]).aU [0,0] a0)=c)=>c) _ (by conv=>lhs;reduce) aEd
def aPI:CC:=(fun (c:CC->CC->CC) (_:(fun a0 a1=>((aBj.1).aU [1,1,1,0,1] a0).aU [1,1,1,1,0,1] a1)=c)=>c) _ (by conv=>lhs;reduce) aEg aEh
theorem aWv:aZ Tryz.prog 143 aPI [2] 64:=aZ.of Tryz.f143 Tryz.func143 rfl
def a1m:{c:CC // aJ Tryz.prog 144=c}:=⟨_,by conv=>lhs;reduce⟩
def aNY:{c:CC // bA Tryz.prog 144 {} a1m.1 [([1,1,1,1,0],(.f [1,0,2,8,2003,2004,5,6,7,9,10]))]=c}:=⟨_,by conv=>lhs;reduce⟩
def aEb:CC:=(fun (c:CC) (_:(aNY.1.aV [1,1,1,1,1,1,1,0,1,0,0])=c)=>c) _ (by conv=>lhs;reduce)
def aEc:CC:=(fun (c:CC->CC) (_:(fun a0=>(aNY.1.aV [1,1,1,1,1,1,1,0,1]).aU [0,0] a0)=c)=>c) _ (by conv=>lhs;reduce) aEb
def tU:CC:=(fun (c:CC->CC) (_:(fun a0=>(aNY.1.aV [1,1,1,1,1,1]).aU [1,0,1] a0)=c)=>c) _ (by conv=>lhs;reduce) aEc
def aPH:CC:=(fun (c:CC->CC) (_:(fun a0=>(aNY.1).aU [1,1,1,1,1,1] a0)=c)=>c) _ (by conv=>lhs;reduce) tU
theorem aWu:aZ Tryz.prog 144 aPH [4] 101:=aZ.of Tryz.f144 Tryz.func144 rfl
def a1l:{c:CC // aJ Tryz.prog 145=c}:=⟨_,by conv=>lhs;reduce⟩
def aBi:{c:CC // bA Tryz.prog 145 {} a1l.1 [([1,0,1,0,0,1,0,0,0],(.f [1,3,0,2,4,5,6,7,8])),([1,0,1,0,0,1,0,0,1,1,0,0,1,0,0,1,0,1,0,0,1,0,0,0],(.f [1,2,3,1004,0,9,2005,6,7,8,10,11]))]=c}:=⟨_,by conv=>lhs;reduce⟩
def aD7:CC:=(fun (c:CC) (_:(aBi.1.aV [1,0,1,0,0,1,0,0,1,1,0,0,1,0,0,1,0,1,0,0])=c)=>c) _ (by conv=>lhs;reduce)
def aEa:CC:=(fun (c:CC->CC) (_:(fun a0=>(aBi.1.aV [1,0,1,0,0,1,0,0,1,1,0,0,1,0,0,1,0,1]).aU [0,0] a0)=c)=>c) _ (by conv=>lhs;reduce) aD7
def aD6:CC:=(fun (c:CC->CC) (_:(fun a0=>(aBi.1.aV [1,0,1,0,0,1,0,0,1,1,0,0]).aU [1,0,0,1,0,1] a0)=c)=>c) _ (by conv=>lhs;reduce) aEa
def aD9:CC:=(fun (c:CC->CC) (_:(fun a0=>(aBi.1.aV [1,0,1,0,0,1,0,0,1,1]).aU [0,0] a0)=c)=>c) _ (by conv=>lhs;reduce) aD6
def aD5:CC:=(fun (c:CC->CC) (_:(fun a0=>(aBi.1.aV [1,0,1,0,0]).aU [1,0,0,1,1] a0)=c)=>c) _ (by conv=>lhs;reduce) aD9
def aD8:CC:=(fun (c:CC->CC) (_:(fun a0=>(aBi.1.aV [1,0,1]).aU [0,0] a0)=c)=>c) _ (by conv=>lhs;reduce) aD5
def aPG:CC:=(fun (c:CC->CC) (_:(fun a0=>(aBi.1).aU [1,0,1] a0)=c)=>c) _ (by conv=>lhs;reduce) aD8
theorem aWt:aZ Tryz.prog 145 aPG [2] 62:=aZ.of Tryz.f145 Tryz.func145 rfl
def a06:{c:CC // aJ Tryz.prog 172=c}:=⟨_,by conv=>lhs;reduce⟩
def aTU:{c:CC // bA Tryz.prog 172 {} a06.1 []=c}:=⟨_,by conv=>lhs;reduce⟩
def aDD:CC:=(fun (c:CC) (_:(aTU.1.aV [1,1,0,1,0,0])=c)=>c) _ (by conv=>lhs;reduce)
def aDE:CC:=(fun (c:CC->CC) (_:(fun a0=>(aTU.1.aV [1,1,0,1]).aU [0,0] a0)=c)=>c) _ (by conv=>lhs;reduce) aDD
def aPs:CC:=(fun (c:CC->CC) (_:(fun a0=>(aTU.1).aU [1,1,0,1] a0)=c)=>c) _ (by conv=>lhs;reduce) aDE
theorem aWk:aZ Tryz.prog 172 aPs [2] 40:=aZ.of Tryz.f172 Tryz.func172 rfl
def aDB:CC:=(.seq (.seq (.reg [⟨(some 6),(.mv (.tmp 5)),none⟩,⟨(some 7),(.mv (.tmp 0)),none⟩,⟨(some 8),(.lens (.tmp 7)),none⟩,⟨(some 9),(.bin .leq (.tmp 6) (.tmp 8)),none⟩] false [] (some [0,3,4,5,9])) (.cond (.tmp 9) .skip (.exit 0))) (.seq (.block (some [0,3,4,5]) 1 (.seq (.seq (.reg [⟨(some 12),(.mv (.tmp 5)),none⟩,⟨(some 13),(.mv (.tmp 0)),none⟩,⟨(some 14),(.lens (.tmp 13)),none⟩,⟨(some 15),(.bin .lss (.tmp 12) (.tmp 14)),none⟩,⟨(some 16),(.mv (.tmp 15)),none⟩,⟨(some 17),(.mv (.tmp 0)),(some (16,true))⟩,⟨(some 18),(.mv (.tmp 5)),(some (16,true))⟩,⟨(some 19),(.ixs (.tmp 17) (.tmp 18)),(some (16,true))⟩,⟨(some 20),(.bin .neq (.tmp 19) (.const (.int .u8 46))),(some (16,true))⟩,⟨(some 21),(.pick (.tmp 16) (.tmp 20) (.const (.bool false))),none⟩] false [] (some [0,3,4,5,21])) (.cond (.tmp 21) (.exit 1) .skip)) (.seq (.seq (.reg [⟨(some 22),(.mv (.tmp 0)),none⟩,⟨(some 23),(.mv (.tmp 3)),none⟩,⟨(some 24),(.mv (.tmp 5)),none⟩,⟨(some 25),(.sls (.tmp 22) (some (.tmp 23)) (some (.tmp 24))),none⟩,⟨(some 26),(.call 172 [(.tmp 25)]),none⟩,⟨(some 27),(.un .not (.tmp 26)),none⟩,⟨(some 28),(.mv (.tmp 27)),none⟩,⟨(some 29),(.mv (.tmp 4)),(some (28,false))⟩,⟨(some 30),(.bin .eql (.tmp 29) (.const (.int .i64 0))),(some (28,false))⟩,⟨(some 31),(.mv (.tmp 30)),(some (28,false))⟩,⟨(some 32),(.mv (.tmp 0)),(some (31,true))⟩,⟨(some 33),(.mv (.tmp 3)),(some (31,true))⟩,⟨(some 34),(.mv (.tmp 5)),(some (31,true))⟩,⟨(some 35),(.sls (.tmp 32) (some (.tmp 33)) (some (.tmp 34))),(some (31,true))⟩,⟨(some 36),(.bin .neq (.tmp 35) (.const (.string ⟨#[114,111,111,116]⟩))),(some (31,true))⟩,⟨(some 37),(.pick (.tmp 31) (.tmp 36) (.const (.bool false))),(some (28,false))⟩,⟨(some 38),(.pick (.tmp 28) (.const (.bool true)) (.tmp 37)),none⟩] false [] (some [0,4,5,38])) (.cond (.tmp 38) (.seq (.reg [⟨(some 2),(.mv (.const (.bool false))),none⟩] false [2] (some [2])) .ret) .skip)) (.seq (.reg [⟨(some 39),(.mv (.tmp 5)),none⟩,⟨(some 40),(.bin .add (.tmp 39) (.const (.int .i64 1))),none⟩,⟨(some 3),(.mv (.tmp 40)),none⟩] false [] (some [0,3,4,5])) (.reg [⟨(some 41),(.mv (.tmp 4)),none⟩,⟨(some 42),(.bin .add (.tmp 41) (.const (.int .i64 1))),none⟩,⟨(some 4),(.mv (.tmp 42)),none⟩] false [] (some [0,3,4,5])))))) (.reg [⟨(some 10),(.mv (.tmp 5)),none⟩,⟨(some 11),(.bin .add (.tmp 10) (.const (.int .i64 1))),none⟩,⟨(some 5),(.mv (.tmp 11)),none⟩] false [] (some [0,3,4,5]))))
def aDC:CC:=(.block (some [4]) 0 (.loop 0 (some [0,3,4,5]) aDB))
def aPr:CC:=(.seq (.reg [⟨(some 2),(.mv (.const (.bool false))),none⟩] false [] (some [0])) (.seq (.reg [⟨(some 3),(.mv (.const (.int .i64 0))),none⟩,⟨(some 4),(.mv (.const (.int .i64 0))),none⟩] false [] (some [0,3,4])) (.seq (.seq (.reg [⟨(some 5),(.mv (.const (.int .i64 0))),none⟩] false [] (some [0,3,4,5])) aDC) (.seq (.reg [⟨(some 43),(.mv (.tmp 4)),none⟩,⟨(some 44),(.bin .leq (.tmp 43) (.const (.int .i64 4))),none⟩,⟨(some 2),(.mv (.tmp 44)),none⟩] false [2] (some [2])) .ret))))
theorem aWj:aZ Tryz.prog 173 aPr [2] 45:=aZ.of Tryz.f173 Tryz.func173 rfl
def okc (c:UInt8):Bool:=(97<=c&&c<=122)||(48<=c&&c<=57)||c==45
def iK (s:List UInt8):Bool:=s.all okc&& !s.isEmpty&&decide (s.length<=12)
theorem aBB (c:UInt8):okc c=true↔(97<=c.toNat/\c.toNat<=122)∨(48<=c.toNat/\c.toNat<=57)∨c.toNat=45:=by
 unfold okc
 simp only [Bool.or_eq_true,Bool.and_eq_true,decide_eq_true_eq,beq_iff_eq,UInt8.le_iff_toNat_le]
 have:c=45↔c.toNat=45:=⟨fun h=>by rw [h];rfl,fun h=>UInt8.toNat_inj.1 h⟩
 rw [this]
 show (97<=c.toNat/\c.toNat<=122∨48<=c.toNat/\c.toNat<=57)∨c.toNat=45↔_
 omega
theorem aFh {s:List UInt8} {p:Nat} (h:p<s.length) (hb:okc s[p]=false):iK s=false:=by
 have:s.all okc=false:=by
  rw [List.all_eq_false]
  exact ⟨_,List.getElem_mem h,by simp [hb]⟩
 unfold iK
 rw [this]
 rfl
theorem aFg {s:List UInt8} (h:∀ i,(h:i<s.length)->okc s[i]=true):iK s=(!s.isEmpty&&decide (s.length<=12)):=by
 have:s.all okc=true:=by
  rw [List.all_eq_true]
  intro x hx
  obtain ⟨i,hi,rfl⟩:=List.getElem_of_mem hx
  exact h i hi
 unfold iK
 rw [this,Bool.true_and]
set_option maxHeartbeats 2000000 in
theorem rY (s:List UInt8) (hs:s.length<=2^40):aT Tryz.prog 172 [.str s] (.bool (iK s)):=by
 unfold aT
 refine aK aWk (by simp) ?_
 unfold aPs
 by_cases h1:s.length<1
 · have:s=[]:=List.length_eq_zero_iff.1 (by omega)
   subst this
   refine Ya ?_
   rfl
 by_cases h2:s.length>12
 · have e:iK s=false:=by
    unfold iK
    rw [show decide (s.length<=12)=false from decide_eq_false (by omega),Bool.and_false]
   rw [e]
   simp -implicitDefEqProofs(disch:=first|decide|omega)only[↓aA,aC,aB,simprocAttr]
 refine Ya ?_
 unfold aDE
 refine Ya ?_
 refine aF (σ:=Nat) (fun i=>⟨[(0,.str s),(3,.int .i64 (i:Int))],[]⟩) (fun i=>i<=s.length/\∀ j,j<i->(h:j<s.length)->okc s[j]=true) (fun i=>s.length-i) 0 (.inl rfl) ⟨by omega,fun j h=>by omega⟩ ?_
 rintro i ⟨hi,hn⟩
 unfold aDD
 by_cases hil:i<s.length
 · have hg:s.getD i 0=s[i]:=by simp [hil]
   cases ho:okc s[i]
   · have h3:=aFh hil ho
     rw [h3]
     have h4:¬ ((97<=s[i].toNat/\s[i].toNat<=122)∨(48<=s[i].toNat/\s[i].toNat<=57)∨s[i].toNat=45):=fun h=>by
      rw [(aBB _).2 h] at ho;cases ho
     rcases (by omega:(s[i].toNat<48/\s[i].toNat≠45)∨(57<s[i].toNat/\s[i].toNat<97)∨(122<s[i].toNat)) with h5|h5|h5<;>(
      simp -implicitDefEqProofs(disch:=first|decide|omega)only[↓aA,aC,aB,simprocAttr,hg]
      exact ⟨by omega,by omega⟩)
   · have h4:=(aBB _).1 ho
     rcases (by omega:(97<=s[i].toNat/\s[i].toNat<=122)∨(48<=s[i].toNat/\s[i].toNat<=57)∨s[i].toNat=45) with h5|h5|h5<;>(
      simp -implicitDefEqProofs(disch:=first|decide|omega)only[↓aA,aC,aB,simprocAttr,hg]
      refine ⟨by omega,by omega,i+1,.inl rfl,⟨by omega,fun j hj h=>?_⟩,by omega⟩
      by_cases hji:j=i
      · subst hji;exact ho
      · exact hn j (by omega) h)
 · refine Ya ?_
   rw [aFg fun j h=>hn j (by omega) h]
   have hne:s.isEmpty=false:=by
    cases s with
    | nil=>simp at h1
    | cons a l=>rfl
   rw [hne,decide_eq_true (show s.length<=12 by omega)]
   rfl
def nO:List UInt8:=[114,111,111,116]
def gE (cur:List UInt8) (n:Nat):Bool:=iK cur&&(n !=0||cur==nO)
def pgo:List UInt8->Nat->List UInt8->Bool
 | cur,n,[]=>gE cur n&&decide (n+1<=4)
 | cur,n,c :: r=>if c=46 then gE cur n&&pgo [] (n+1) r else pgo (cur++[c]) n r
def qQ (s:List UInt8):Bool:=pgo [] 0 s
theorem vA {s:List UInt8} (h:iK s=true):s.length<=12:=by
 unfold iK at h
 simp only [Bool.and_eq_true,decide_eq_true_eq] at h
 exact h.2
theorem uR {s:List UInt8} {n:Nat} (h:gE s n=true):s.length<=12:=by
 unfold gE at h
 rw [Bool.and_eq_true] at h
 exact vA h.1
theorem rK:∀ (r cur:List UInt8) (n:Nat),pgo cur n r=true->n<=3/\cur.length+r.length+1<=13*(4-n)
 | [],cur,n,h=>by
   unfold pgo at h
   rw [Bool.and_eq_true] at h
   have h1:=uR h.1
   have h2:=of_decide_eq_true h.2
   simp only [List.length_nil]
   omega
 | c :: r,cur,n,h=>by
   unfold pgo at h
   split at h
   · rw [Bool.and_eq_true] at h
     have h1:=uR h.1
     have h2:=rK r [] (n+1) h.2
     simp only [List.length_nil,List.length_cons] at h2 ⊢
     omega
   · have h2:=rK r _ n h
     simp only [List.length_append,List.length_cons,List.length_nil] at h2 ⊢
     omega
theorem uY {s:List UInt8} (h:qQ s=true):s.length<=60:=by
 have:=rK s [] 0 h
 simp only [List.length_nil] at this
 omega
set_option maxHeartbeats 2000000 in
theorem aGh (s:List UInt8) (hs:s.length<=2^30):aT Tryz.prog 173 [.str s] (.bool (qQ s)):=by
 unfold aT
 refine aK aWj (by simp) ?_
 unfold aPr
 refine Ya ?_
 unfold aDC
 refine Ya ?_
 refine aF (σ:=Nat×Nat×Nat) (fun p=>⟨[(0,.str s),(3,.int .i64 (p.2.1:Int)),(4,.int .i64 (p.2.2:Int)),(5,.int .i64 (p.1:Int))],[]⟩) (fun p=>p.1<=s.length+1/\p.2.1<=p.1/\p.2.2<=p.1/\(p.1<=s.length->pgo ((s.take p.1).drop p.2.1) p.2.2 (s.drop p.1)=qQ s)/\(s.length<p.1->decide (p.2.2<=4)=qQ s)) (fun p=>s.length+1-p.1) (0,0,0) (.inl rfl) ⟨by simp,by simp,by simp,fun _=>by simp [qQ],fun h=>by simp at h⟩ ?_
 rintro ⟨i,a,n⟩ ⟨hi,ha,hn,hr,he⟩
 simp only at hi ha hn hr he
 unfold aDB
 by_cases hil:i<=s.length
 case neg =>
  refine Ya ?_
  rw [<- he (by omega),show decide ((n:Int)<=4)=decide (n<=4) from decide_eq_decide.2 (by omega)]
 have hr:=hr hil
 have hcl:((s.take i).drop a).length<=2^40:=by simp;omega
 have e1:((i:Int)+1)=((i+1:Nat):Int):=by omega
 have e2:((n:Int)+1)=((n+1:Nat):Int):=by omega
 have hnil:(s.take (i+1)).drop (i+1)=[]:=by simp
 by_cases hlt:i<s.length
 · have hg:s.getD i 0=s[i]:=by simp [hlt]
   have hdr:s.drop i=s[i] :: s.drop (i+1):=List.drop_eq_getElem_cons hlt
   by_cases hd:s[i]=46
   · rw [hdr,hd] at hr
     unfold pgo at hr
     rw [if_pos rfl] at hr
     simp -implicitDefEqProofs(disch:=first|decide|omega)only[↓aA,aC,aB,simprocAttr,hg,hd]
     repeat refine And.intro (by omega) ?_
     generalize hcur:(s.take i).drop a=cur at hr hcl ⊢
     refine aE (aI.of (aM:=false) (rY cur hcl) (.refl rfl) rfl (by simp)) ?_
     cases hnm:iK cur
     · have e:gE cur n=false:=by unfold gE;rw [hnm];rfl
       rw [e,Bool.false_and] at hr
       rw [<- hr]
       simp -implicitDefEqProofs(disch:=first|decide|omega)only[↓aA,aC,aB,simprocAttr]
     by_cases hn0:n=0
     · cases hx:cur==nO
       · have e:gE cur n=false:=by unfold gE;rw [hnm,hn0,hx];rfl
         rw [e,Bool.false_and] at hr
         rw [<- hr]
         have hx2:(cur==[114,111,111,116])=false:=hx
         refine Xa (And.intro hn0 (And.intro hcur hx2)) ?_
         omega
       · have e:gE cur n=true:=by unfold gE;rw [hnm,hn0,hx];rfl
         rw [e,Bool.true_and] at hr
         have hx2:(cur==[114,111,111,116])=true:=hx
         simp -implicitDefEqProofs(disch:=first|decide|omega)only[↓aA,aC,aB,simprocAttr,hn0,hcur,hx2]
         repeat refine And.intro (by omega) ?_
         rw [e1]
         exact ⟨(i+1,i+1,1),.inl rfl,⟨by simp only;omega,by simp,by simp only;omega,fun h=>by simp only;rw [hnil,<- hr,hn0],fun h=>by simp only at h;omega⟩,by simp only;omega⟩
     · have e:gE cur n=true:=by unfold gE;rw [hnm,show (n !=0)=true by simpa using hn0];rfl
       rw [e,Bool.true_and] at hr
       have hn1:¬ ((n:Int)=0):=by omega
       simp -implicitDefEqProofs(disch:=first|decide|omega)only[↓aA,aC,aB,simprocAttr,hn1]
       repeat refine And.intro (by omega) ?_
       rw [e1,e2]
       exact ⟨(i+1,i+1,n+1),.inl rfl,⟨by simp only;omega,by simp,by simp only;omega,fun h=>by simp only;rw [hnil];exact hr,fun h=>by simp only at h;omega⟩,by simp only;omega⟩
   · rw [hdr] at hr
     unfold pgo at hr
     rw [if_neg hd] at hr
     have hd2:¬ ((s[i].toNat:Int)=46):=fun h=>hd (UInt8.toNat_inj.1 (show s[i].toNat=46 by omega))
     simp -implicitDefEqProofs(disch:=first|decide|omega)only[↓aA,aC,aB,simprocAttr,hg,hd2]
     repeat refine And.intro (by omega) ?_
     rw [e1]
     refine ⟨(i+1,a,n),.inl rfl,⟨by simp only;omega,by simp only;omega,by simp only;omega,fun h=>?_,fun h=>by simp only at h;omega⟩,by simp only;omega⟩
     simp only
     rw [<- hr,List.take_add_one,List.drop_append_of_le_length (by simp;omega)]
     simp [hlt]
 · have:i=s.length:=by omega
   subst this
   rw [List.drop_length] at hr
   unfold pgo at hr
   simp -implicitDefEqProofs(disch:=first|decide|omega)only[↓aA,aC,aB,simprocAttr]
   repeat refine And.intro (by omega) ?_
   rw [List.take_length] at hr hcl
   generalize hcur:s.drop a=cur at hr hcl ⊢
   refine aE (aI.of (aM:=false) (rY cur hcl) (.refl rfl) rfl (by simp)) ?_
   cases hnm:iK cur
   · have e:gE cur n=false:=by unfold gE;rw [hnm];rfl
     rw [e,Bool.false_and] at hr
     rw [<- hr]
     simp -implicitDefEqProofs(disch:=first|decide|omega)only[↓aA,aC,aB,simprocAttr]
   by_cases hn0:n=0
   · cases hx:cur==nO
     · have e:gE cur n=false:=by unfold gE;rw [hnm,hn0,hx];rfl
       rw [e,Bool.false_and] at hr
       rw [<- hr]
       have hx2:(cur==[114,111,111,116])=false:=hx
       refine Xa (And.intro hn0 (And.intro hcur hx2)) ?_
       omega
     · have e:gE cur n=true:=by unfold gE;rw [hnm,hn0,hx];rfl
       rw [e,Bool.true_and] at hr
       have hx2:(cur==[114,111,111,116])=true:=hx
       simp -implicitDefEqProofs(disch:=first|decide|omega)only[↓aA,aC,aB,simprocAttr,hn0,hcur,hx2]
       repeat refine And.intro (by omega) ?_
       rw [e1]
       exact ⟨(s.length+1,s.length+1,1),.inl rfl,⟨by simp,by simp,by simp,fun h=>by simp only at h;omega,fun h=>by rw [<- hr,hn0]⟩,by simp only;omega⟩
   · have e:gE cur n=true:=by unfold gE;rw [hnm,show (n !=0)=true by simpa using hn0];rfl
     rw [e,Bool.true_and] at hr
     have hn1:¬ ((n:Int)=0):=by omega
     simp -implicitDefEqProofs(disch:=first|decide|omega)only[↓aA,aC,aB,simprocAttr,hn1]
     repeat refine And.intro (by omega) ?_
     rw [e1,e2]
     exact ⟨(s.length+1,s.length+1,n+1),.inl rfl,⟨by simp,by simp,by simp only;omega,fun h=>by simp only at h;omega,fun h=>hr⟩,by simp only;omega⟩
end Go.Proofs.YtakemdamegfcfaaGreat
