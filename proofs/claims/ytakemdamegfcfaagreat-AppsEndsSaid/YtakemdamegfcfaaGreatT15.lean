/- A part of a proof: what functions of the program compute. No condition. -/
import Derived.Test.YtakemdamegfcfaaGreatT14
import Derived.Test.YtakemdamegfcfaaGreatT12
set_option linter.unusedSimpArgs false
set_option linter.unusedVariables false
set_option maxRecDepth 20000
namespace Go.Proofs.YtakemdamegfcfaaGreat
open Go Go.Ab
structure C0 (ls:List (List UInt8)) (qs:List Queue):Prop where
 l:ls.length<=3000
 lr:∀ x∈ls,x.length<=2000
 q:qs.length<=3000
 qr:∀ q∈qs,q.path.length<=2000/\q.caps.length<=3000
open Classical in
noncomputable def iR (ls:List (List UInt8)) (qs:List Queue):Int:=if ls.length<1∨3<ls.length∨16<qs.length then 4 else if (ls.getD 0 default==[])=false then 12 else if ∃ i,1<=i/\i<ls.length/\iK (ls.getD i default)=false then 12 else if ∃ i k,1<=k/\k<i/\i<ls.length/\ls.getD i default=ls.getD k default then 7 else 0
theorem aMH {ls:List (List UInt8)} {qs:List Queue} (h:C0 ls qs) (i:Nat):(ls.getD i default).length<=2000:=by
 rw [List.getD_eq_getElem?_getD]
 cases e:ls[i]? with
 | none=>simp;decide
 | some x=>exact h.lr x (List.mem_of_getElem? e)
set_option maxHeartbeats 1000000 in
theorem aNw (ls:List (List UInt8)) (qs:List Queue) (h:C0 ls qs):aT Tryz.prog 143 [.agg (bN ls qs)] (.int .i64 (iR ls qs)):=by
 have hl:=h.l
 have hq:=h.q
 unfold aT
 refine aK aWv (by simp) ?_
 unfold aPI bN
 by_cases h1:ls.length<1
 · have e:iR ls qs=4:=by unfold iR;rw [if_pos (.inl h1)]
   rw [e]
   simp -implicitDefEqProofs(disch:=first|decide|omega)only[↓aA,aC,aB,simprocAttr]
 by_cases h2:ls.length>3
 · have e:iR ls qs=4:=by unfold iR;rw [if_pos (.inr (.inl h2))]
   rw [e]
   simp -implicitDefEqProofs(disch:=first|decide|omega)only[↓aA,aC,aB,simprocAttr]
 by_cases h3:qs.length>16
 · have e:iR ls qs=4:=by unfold iR;rw [if_pos (.inr (.inr h3))]
   rw [e]
   simp -implicitDefEqProofs(disch:=first|decide|omega)only[↓aA,aC,aB,simprocAttr]
 have hb:¬ (ls.length<1∨3<ls.length∨16<qs.length):=by omega
 cases h4:ls.getD 0 default==[]
 · have e:iR ls qs=12:=by unfold iR;rw [if_neg hb,if_pos h4]
   rw [e]
   simp -implicitDefEqProofs(disch:=first|decide|omega)only[↓aA,aC,aB,simprocAttr,h4,Bool.not_false]
   try omega
 have h4':¬ (ls.getD 0 default==[])=false:=by rw [h4];simp
 simp -implicitDefEqProofs(disch:=first|decide|omega)only[↓aA,aC,aB,simprocAttr,h4,Bool.not_true]
 repeat refine And.intro (by omega) ?_
 unfold aEg
 refine Ya ?_
 refine aF (σ:=Nat) (fun i=>⟨[(1,.ref 0 0 0),(3,.int .i64 (i:Int))],[.box (bN ls qs)]⟩) (fun i=>1<=i/\i<=ls.length/\∀ j,1<=j->j<i->iK (ls.getD j default)=true) (fun i=>ls.length-i) 1 (.inl rfl) ⟨by omega,by omega,fun j h1 h2=>by omega⟩ ?_
 rintro i ⟨hi1,hi,hall⟩
 unfold aEd bN
 by_cases hil:i<ls.length
 · simp -implicitDefEqProofs(disch:=first|decide|omega)only[↓aA,aC,aB,simprocAttr]
   repeat refine And.intro (by omega) ?_
   refine aE (aI.of (aM:=false) (rY (ls.getD i default) (by have:=aMH h i;omega)) (.refl rfl) rfl (by simp)) ?_
   cases hn:iK (ls.getD i default)
   · have e:iR ls qs=12:=by unfold iR;rw [if_neg hb,if_neg h4',if_pos ⟨i,hi1,hil,hn⟩]
     rw [e]
     simp -implicitDefEqProofs(disch:=first|decide|omega)only[↓aA,aC,aB,simprocAttr]
   · simp -implicitDefEqProofs(disch:=first|decide|omega)only[↓aA,aC,aB,simprocAttr]
     repeat refine And.intro (by omega) ?_
     refine ⟨i+1,.inl rfl,⟨by omega,by omega,fun j j1 j2=>?_⟩,by omega⟩
     by_cases hj:j=i
     · subst hj;exact hn
     · exact hall j j1 (by omega)
 have hie:i=ls.length:=by omega
 subst hie
 have h5:¬ ∃ i,1<=i/\i<ls.length/\iK (ls.getD i default)=false:=by
  rintro ⟨j,j1,j2,j3⟩
  rw [hall j j1 j2] at j3
  cases j3
 refine Ya ?_
 unfold aEh
 refine Ya ?_
 refine aF (σ:=Nat) (fun i=>⟨[(1,.ref 0 0 0),(4,.int .i64 (i:Int))],[.box (bN ls qs)]⟩) (fun i=>1<=i/\i<=ls.length/\∀ a k,1<=k->k<a->a<i->ls.getD a default≠ls.getD k default) (fun i=>ls.length-i) 1 (.inl rfl) ⟨by omega,by omega,fun a k h1 h2 h3=>by omega⟩ ?_
 rintro i ⟨hi1,hi,hdif⟩
 unfold aEe bN
 by_cases hil:i<ls.length
 · refine Ya ?_
   unfold aEi
   refine Ya ?_
   refine aF (σ:=Nat) (fun k=>⟨[(1,.ref 0 0 0),(4,.int .i64 (i:Int)),(5,.int .i64 (k:Int))],[.box (bN ls qs)]⟩) (fun k=>1<=k/\k<=i/\∀ j,1<=j->j<k->ls.getD i default≠ls.getD j default) (fun k=>i-k) 1 (.inl rfl) ⟨by omega,by omega,fun j h1 h2=>by omega⟩ ?_
   rintro k ⟨hk1,hk,hne⟩
   unfold aEf bN
   by_cases hki:k<i
   · cases hq:ls.getD i default==ls.getD k default
     · simp -implicitDefEqProofs(disch:=first|decide|omega)only[↓aA,aC,aB,simprocAttr,hq]
       repeat refine And.intro (by omega) ?_
       refine ⟨k+1,.inl rfl,⟨by omega,by omega,fun j j1 j2=>?_⟩,by omega⟩
       by_cases hj:j=k
       · subst hj;simpa using hq
       · exact hne j j1 (by omega)
     · have e:iR ls qs=7:=by unfold iR;rw [if_neg hb,if_neg h4',if_neg h5,if_pos ⟨i,k,hk1,hki,hil,by simpa using hq⟩]
       rw [e]
       simp -implicitDefEqProofs(disch:=first|decide|omega)only[↓aA,aC,aB,simprocAttr,hq]
       try omega
   · have hke:k=i:=by omega
     subst hke
     refine Ya ?_
     refine ⟨k+1,.inl rfl,⟨by omega,by omega,fun a b b1 b2 a2=>?_⟩,by omega⟩
     by_cases ha:a=k
     · subst ha;exact hne b b1 b2
     · exact hdif a b b1 b2 (by omega)
 · have hie:i=ls.length:=by omega
   have e:iR ls qs=0:=by
    unfold iR
    rw [if_neg hb,if_neg h4',if_neg h5,if_neg]
    rintro ⟨a,k,k1,k2,a2,he⟩
    exact hdif a k k1 k2 (by omega) he
   rw [e]
   simp -implicitDefEqProofs(disch:=first|decide|omega)only[↓aA,aC,aB,simprocAttr]
theorem aFS {ls:List (List UInt8)} {qs:List Queue} (h:iR ls qs=0):1<=ls.length/\ls.length<=3/\qs.length<=16/\∀ x∈ls,x.length<=12:=by
 unfold iR at h
 split at h
 · cases h
 split at h
 · cases h
 split at h
 · cases h
 rename_i h1 h2 h3
 refine ⟨by omega,by omega,by omega,fun x hx=>?_⟩
 obtain ⟨i,hi,rfl⟩:=List.getElem_of_mem hx
 have hg:ls.getD i default=ls[i]:=by simp [hi]
 by_cases h0:i=0
 · subst h0
   have:(ls.getD 0 default==[])=true:=by simpa using h2
   rw [hg] at this
   have:ls[0]=[]:=by simpa using this
   rw [this]
   simp
 · refine vA ?_
   rw [<- hg]
   cases hn:iK (ls.getD i default)
   · exact absurd ⟨i,by omega,hi,hn⟩ h3
   · rfl
def qG (x:Cap):Prop:=x.least<0∨10000<x.least∨x.most<0∨10000<x.most∨x.most<x.least
def leS (a b:List UInt8):Bool:=Op.bytesLess a b||a==b
open Classical in
noncomputable def t144 (ls:List (List UInt8)) (q:Queue):Int :=
 if q.user<1∨1000000<q.user∨q.caps.length≠ls.length then 1
 else if ∃ k,k<q.caps.length/\qG (q.caps.getD k default) then 1 else 0
open Classical in
noncomputable def l8 (ls:List (List UInt8)) (qs:List Queue) (i:Nat):Int :=
 if qQ (qs.getD i default).path=false then 12
 else if 0<i/\leS (qs.getD i default).path (qs.getD (i-1) default).path=true then 7
 else if 0<i/\(fT (dH (qs.getD i default).path).1 qs).isSome=false then 12
 else t144 ls (qs.getD i default)
set_option maxHeartbeats 2000000 in
theorem vW (ls:List (List UInt8)) (qs:List Queue) (hl:ls.length<=3000) (q:Queue) (hq:q.caps.length<=3000) (X0:List AV) (b:Bool):aw Tryz.prog tU (aG1 [4] fun r _=>r= .int .i64 (t144 ls q)) ⟨[(2,.ref 0 0 0),(5,.ref 1 0 0),(46,.bool b)],[.box (bN ls qs),.box (jU q),.box X0]⟩:=by
 unfold tU bN
 by_cases h1:q.user<1
 · have e:t144 ls q=1:=by unfold t144;rw [if_pos (.inl h1)]
   rw [e]
   simp -implicitDefEqProofs(disch:=first|decide|omega)only[↓aA,aC,aB,simprocAttr,bB,bW]
 by_cases h2:q.user>1000000
 · have e:t144 ls q=1:=by unfold t144;rw [if_pos (.inr (.inl h2))]
   rw [e]
   simp -implicitDefEqProofs(disch:=first|decide|omega)only[↓aA,aC,aB,simprocAttr,bB,bW]
 by_cases h3:q.caps.length=ls.length
 case neg =>
  have e:t144 ls q=1:=by unfold t144;rw [if_pos (.inr (.inr h3))]
  rw [e]
  simp -implicitDefEqProofs(disch:=first|decide|omega)only[↓aA,aC,aB,simprocAttr,bB,bW]
 have hb:¬ (q.user<1∨1000000<q.user∨q.caps.length≠ls.length):=by omega
 refine Yk ?_
 unfold aEc
 refine Ya ?_
 refine aF (σ:=Nat) (fun k=>⟨[(5,.ref 0 0 0),(8,.int .i64 (k:Int))],[.box (jU q)]⟩) (fun k=>k<=q.caps.length/\∀ j,j<k->¬ qG (q.caps.getD j default)) (fun k=>q.caps.length-k) 0 ?_ ⟨by omega,fun j h=>by omega⟩ ?_
 · exact Sub.ofS [some 1]
 rintro k ⟨hk,hn⟩
 unfold aEb
 by_cases hkl:k<q.caps.length
 · by_cases hbd:qG (q.caps.getD k default)
   · have e:t144 ls q=1:=by unfold t144;rw [if_neg hb,if_pos ⟨k,hkl,hbd⟩]
     rw [e]
     unfold qG at hbd
     generalize hx:q.caps.getD k default=x at hbd
     rcases hbd with g|g|g|g|g
     · simp -implicitDefEqProofs(disch:=first|decide|omega)only[↓aA,aC,aB,simprocAttr,bB,bW,kH,hx]
       try omega
     · by_cases g1:x.least<0
       · omega
       simp -implicitDefEqProofs(disch:=first|decide|omega)only[↓aA,aC,aB,simprocAttr,bB,bW,kH,hx]
       try omega
     · by_cases g1:x.least<0
       · simp -implicitDefEqProofs(disch:=first|decide|omega)only[↓aA,aC,aB,simprocAttr,bB,bW,kH,hx]
         try omega
       by_cases g2:x.least>10000
       · simp -implicitDefEqProofs(disch:=first|decide|omega)only[↓aA,aC,aB,simprocAttr,bB,bW,kH,hx]
         try omega
       simp -implicitDefEqProofs(disch:=first|decide|omega)only[↓aA,aC,aB,simprocAttr,bB,bW,kH,hx]
       try omega
     · by_cases g1:x.least<0
       · simp -implicitDefEqProofs(disch:=first|decide|omega)only[↓aA,aC,aB,simprocAttr,bB,bW,kH,hx]
         try omega
       by_cases g2:x.least>10000
       · simp -implicitDefEqProofs(disch:=first|decide|omega)only[↓aA,aC,aB,simprocAttr,bB,bW,kH,hx]
         try omega
       simp -implicitDefEqProofs(disch:=first|decide|omega)only[↓aA,aC,aB,simprocAttr,bB,bW,kH,hx]
       try omega
     · by_cases g1:x.least<0
       · simp -implicitDefEqProofs(disch:=first|decide|omega)only[↓aA,aC,aB,simprocAttr,bB,bW,kH,hx]
         try omega
       by_cases g2:x.least>10000
       · simp -implicitDefEqProofs(disch:=first|decide|omega)only[↓aA,aC,aB,simprocAttr,bB,bW,kH,hx]
         try omega
       by_cases g3:x.most<0
       · simp -implicitDefEqProofs(disch:=first|decide|omega)only[↓aA,aC,aB,simprocAttr,bB,bW,kH,hx]
         try omega
       by_cases g4:x.most>10000
       · simp -implicitDefEqProofs(disch:=first|decide|omega)only[↓aA,aC,aB,simprocAttr,bB,bW,kH,hx]
         try omega
       simp -implicitDefEqProofs(disch:=first|decide|omega)only[↓aA,aC,aB,simprocAttr,bB,bW,kH,hx]
       try omega
   · have hok:=hbd
     unfold qG at hok
     generalize hx:q.caps.getD k default=x at hok
     have g1:¬ x.least<0:=by omega
     have g2:¬ x.least>10000:=by omega
     have g3:¬ x.most<0:=by omega
     have g4:¬ x.most>10000:=by omega
     have g5:¬ x.least>x.most:=by omega
     simp -implicitDefEqProofs(disch:=first|decide|omega)only[↓aA,aC,aB,simprocAttr,bB,bW,kH,hx]
     repeat refine And.intro (by omega) ?_
     refine ⟨k+1,?_,⟨by omega,fun j hj=>?_⟩,by omega⟩
     · exact Sub.ofS [some 0]
     by_cases hjk:j=k
     · subst hjk;exact hbd
     · exact hn j (by omega)
 · have e:t144 ls q=0:=by
    unfold t144
    rw [if_neg hb,if_neg]
    rintro ⟨j,j1,j2⟩
    exact hn j (by omega) j2
   rw [e]
   simp -implicitDefEqProofs(disch:=first|decide|omega)only[↓aA,aC,aB,simprocAttr,bB,bW]
theorem C0.qz {ls:List (List UInt8)} {qs:List Queue} (h:C0 ls qs):QZ qs:=⟨by have:=h.q;omega,fun q hq=>by have:=(h.qr q hq).1;omega,fun q hq=>by have:=(h.qr q hq).2;omega⟩
set_option maxHeartbeats 2000000 in
theorem aNv (ls:List (List UInt8)) (qs:List Queue) (h:C0 ls qs) (i:Nat) (hi:i<qs.length):aT Tryz.prog 144 [.agg (bN ls qs),.int .i64 (i:Int)] (.int .i64 (l8 ls qs i)):=by
 have hl:=h.l
 have hql:=h.q
 have hqm:qs.getD i default∈qs:=by
  rw [show qs.getD i default=qs[i] by simp [hi]]
  exact List.getElem_mem hi
 have hqr:=h.qr _ hqm
 unfold aT
 refine aK aWu (by simp) ?_
 unfold aPH l8
 generalize hq:qs.getD i default=q at hqr ⊢
 have c132:=kR ls qs h.qz (dH q.path).1
 unfold dT at c132
 unfold bN at c132 ⊢
 simp -implicitDefEqProofs(disch:=first|decide|omega)only[↓aA,aC,aB,simprocAttr,bB,hq,bW]
 repeat refine And.intro (by omega) ?_
 refine aE (aI.of (aM:=false) (aGh q.path (by omega)) (.refl rfl) rfl (by simp)) ?_
 cases h1:qQ q.path
 · rw [if_pos rfl]
   simp -implicitDefEqProofs(disch:=first|decide|omega)only[↓aA,aC,aB,simprocAttr,bB,bW]
 rw [if_neg (by simp)]
 cases i with
 | zero =>
   rw [if_neg (by omega),if_neg (by omega)]
   simp -implicitDefEqProofs(disch:=first|decide|omega)only[↓aA,aC,aB,simprocAttr,bB,bW]
   refine bP (kL q.path (by omega)) rfl rfl ?_
   simp -implicitDefEqProofs(disch:=first|decide|omega)only[↓aA,aC,aB,simprocAttr,bB,bW]
   refine bP (c132) rfl rfl ?_
   cases hf:fT (dH q.path).1 qs with
   | none =>
     simp -implicitDefEqProofs(disch:=first|decide|omega)only[↓aA,aC,aB,simprocAttr,bB,bW,Option.isSome_none,Option.getD_none]
     exact vW ls qs hl q hqr.2 _ false
   | some y =>
     simp -implicitDefEqProofs(disch:=first|decide|omega)only[↓aA,aC,aB,simprocAttr,bB,bW,Option.isSome_some,Option.getD_some]
     exact vW ls qs hl q hqr.2 _ false
 | succ i =>
   have e:((i+1:Nat):Int)-1=i:=by omega
   obtain ⟨p,hp⟩:∃ p,qs.getD i default=p:=⟨_,rfl⟩
   rw [Nat.add_sub_cancel,hp]
   cases h2:leS q.path p.path
   case true =>
    rw [if_pos ⟨by omega,rfl⟩]
    unfold leS at h2
    simp -implicitDefEqProofs(disch:=first|decide|omega)only[↓aA,aC,aB,simprocAttr,bB,bW,e,hp,h2]
    try omega
   rw [if_neg (by simp)]
   unfold leS at h2
   simp -implicitDefEqProofs(disch:=first|decide|omega)only[↓aA,aC,aB,simprocAttr,bB,bW,e,hp,h2]
   repeat refine And.intro (by omega) ?_
   refine bP (kL q.path (by omega)) rfl rfl ?_
   simp -implicitDefEqProofs(disch:=first|decide|omega)only[↓aA,aC,aB,simprocAttr,bB,bW]
   refine bP (c132) rfl rfl ?_
   cases hf:fT (dH q.path).1 qs with
   | none =>
     rw [if_pos ⟨by omega,rfl⟩]
     simp -implicitDefEqProofs(disch:=first|decide|omega)only[↓aA,aC,aB,simprocAttr,bB,bW,Option.isSome_none,Option.getD_none]
   | some y =>
     rw [if_neg (by simp)]
     simp -implicitDefEqProofs(disch:=first|decide|omega)only[↓aA,aC,aB,simprocAttr,bB,bW,Option.isSome_some,Option.getD_some]
     exact vW ls qs hl q hqr.2 _ false
theorem qD {ls:List (List UInt8)} {qs:List Queue} {i:Nat} (h:l8 ls qs i=0):(qs.getD i default).path.length<=60/\(qs.getD i default).caps.length=ls.length:=by
 unfold l8 at h
 split at h
 · cases h
 split at h
 · cases h
 split at h
 · cases h
 unfold t144 at h
 split at h
 · cases h
 rename_i h1 _ _ h2
 exact ⟨uY (by simpa using h1),by omega⟩
end Go.Proofs.YtakemdamegfcfaaGreat
