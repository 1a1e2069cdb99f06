/- A part of a proof: what functions of the program compute. No condition. -/
import Derived.Test.YtakemdamegfcfaaGreatT16
import Derived.Test.YtakemdamegfcfaaGreatT22
import Derived.Test.YtakemdamegfcfaaGreatT24
import Derived.Test.YtakemdamegfcfaaGreatT25
import Derived.Test.YtakemdamegfcfaaGreatT32
set_option linter.unusedSimpArgs false
set_option linter.unusedVariables false
set_option maxRecDepth 20000
namespace Go.Proofs.YtakemdamegfcfaaGreat
open Go Go.Ab
def xK:Queue:=⟨nO,[⟨10000,10000⟩],10000⟩
def s4:Sta:=⟨[[]],[xK],[],[],[],[],[],0,0,0⟩
theorem aHS:aT Tryz.prog 54 [] (.agg (stC s4)):=by
 refine aT.wk3 (aO aVm (by simp) ?_)
 unfold aXA
 refine Yb ?_
 exact .inl (.inr ⟨_,_,rfl,rfl,.inl rfl,.inl rfl,.inr ⟨rfl,_,_,rfl⟩,.inr ⟨rfl,_,_,rfl⟩,.inr ⟨rfl,_,_,rfl⟩,.inr ⟨rfl,_,_,rfl⟩,.inr ⟨rfl,_,_,rfl⟩,.inl rfl,.inl rfl,.inl rfl,trivial⟩)
theorem aM5:e95 [[]] [xK]=0:=by
 have h1:iR [[]] [xK]=0:=by
  unfold iR
  rw [if_neg (by decide),if_neg (by decide),if_neg,if_neg]
  · rintro ⟨i,k,h1,h2,h3,_⟩
    simp only [List.length_singleton] at h3
    omega
  · rintro ⟨i,h1,h2,_⟩
    simp only [List.length_singleton] at h2
    omega
 have h2:l8 [[]] [xK] 0=0:=by
  unfold l8
  rw [if_neg (by decide),if_neg (by rintro ⟨h,_⟩;omega),if_neg (by rintro ⟨h,_⟩;omega)]
  unfold t144
  rw [if_neg (by decide),if_neg]
  rintro ⟨k,h1,h2⟩
  have:k=0:=by
   have:k<1:=h1
   omega
  subst this
  revert h2
  unfold qG
  decide
 unfold e95
 rw [if_neg (by rw [h1];simp),if_neg (by decide),dif_neg,if_neg,if_neg]
 · unfold zG
   rw [if_neg]
   · simp
   rintro ⟨i,k,h1,h2,h3,_⟩
   have:i=0:=by
    have:i<1:=h1
    omega
   subst this
   exact h3 (by decide)
 · rintro ⟨k,h1,h2⟩
   have:k=0:=by
    have:k<1:=h1
    omega
   subst this
   exact h2 rfl
 · rintro ⟨i,g1,g2,_⟩
   have:i=0:=by
    have:i<1:=g1
    omega
   subst this
   exact g2 h2
structure Scr where
 shape:Int
 ns:List Int
 acts:List Act
def jJ (x:Scr):List AV:=[.int .i64 x.shape,.sl true 1 (x.ns.map I64),.sl true 5 (x.acts.map ACT)]
def wM (x:Scr):Bool:=decide (x.ns.length<=30)&&decide (x.acts.length<=80)
theorem aSv (x:Scr):aT Tryz.prog 14 [.agg (jJ x)] (.bool (wM x)):=by
 unfold aT
 refine aK aY0 (by simp) ?_
 unfold aXU jJ wM
 by_cases h1:x.ns.length<=30
 · by_cases h2:x.acts.length<=80
   · simp -implicitDefEqProofs(disch:=first|decide|omega)only[↓aA,aC,aB,simprocAttr,h1,h2]
   · simp -implicitDefEqProofs(disch:=first|decide|omega)only[↓aA,aC,aB,simprocAttr,h1,h2]
 · refine Xa h1 ?_
   rfl
theorem vP (x:Act):(ACT x).cells=[.int .i64 x.kind,.int .i64 x.a,.int .i64 x.b,.int .i64 x.c,.int .i64 x.d]:=rfl
theorem aSN:CKK [[]] [xK]:=aIT ⟨by decide,fun x hx=>by
 rw [List.mem_singleton.1 hx];decide,by decide,fun q hq=>by rw [List.mem_singleton.1 hq];decide⟩ aM5
theorem aBM:II 0 s4:=aFK aSN
def v4 (B:Nat) (y:AV):Prop:=∃ s:Sta,y= .agg (stC s)/\II B s
theorem zZ {B:Nat} {y:AV} (h:v4 B y):y.low=true:=by
 obtain ⟨s',rfl,_⟩:=h
 rfl
def aBR (t:List UInt8):Inp:=⟨1,0,0,0,t,⟨0,0,0,0,0,0,0,false⟩,⟨0,0,[],0,0,0,0,[],0,0,[],[],[],[]⟩,[],[],⟨0,0,0,0,0,0⟩⟩
theorem aGR (x:Scr) (hx:wM x=true) (s:Sta) (h:II 4000 s) (A C:AO):aw Tryz.prog tT (oN [.ce 2 41 10 true] fun y _=>v4 400000 y) ⟨[(1,.ref 0 0 0),(2,.ref 1 0 0),(3,.ref 2 0 0)],[.box (jJ x),.box [.aD,.aD,.aD,.aD,.aD,.aD,.aD,.int .i64 0,.int .i64 0,.int .i64 0],.box (stC s),A,C]⟩:=by
 have h80:x.acts.length<=80:=by
  unfold wM at hx
  rw [Bool.and_eq_true] at hx
  exact of_decide_eq_true hx.2
 unfold tT jJ
 refine Yb ?_
 unfold aAZ
 refine Ya ?_
 refine aF (σ:=Nat×Sta) (fun p=>⟨[(1,.ref 0 0 0),(2,.ref 1 0 0),(3,.ref 2 0 0),(6,.int .i64 (p.1:Int))],[.box (jJ x),.box [.aD,.aD,.aD,.aD,.aD,.aD,.aD,.int .i64 0,.int .i64 0,.int .i64 0],.box (stC p.2)]⟩) (fun p=>p.1<=x.acts.length/\II (4000+4000*p.1) p.2) (fun p=>x.acts.length-p.1) (0,s) ?_ ⟨by simp,h⟩ ?_
 · unfold jJ stC
   exact Sub.ofS [some 0,some 1,some 2]
 rintro ⟨k,t⟩ ⟨hk,ht⟩
 simp only at hk ht
 unfold aAY jJ
 by_cases hkl:k<x.acts.length
 · have hg:x.acts.getD k default=x.acts[k]:=by simp [hkl]
   have K:=okS ht (by omega)
   simp -implicitDefEqProofs(disch:=first|decide|omega)only[↓aA,aC,aB,simprocAttr,bB,hg,vP]
   repeat refine And.intro (by omega) ?_
   refine a7 (q58 K.st x.acts[k]) rfl (by rintro _ ⟨_,rfl,_⟩;rfl) ?_
   rintro _ ⟨i,rfl,hi⟩
   refine Yb ?_
   refine a7 (s5 t ht (by omega) i hi) rfl (fun y hy=>fL hy) ?_
   rintro _ ⟨s',e,c,j,g,n,rfl,h'⟩
   refine Yl ?_
   exact ⟨(k+1,s'),.inl rfl,⟨by simp only;omega,h'.mono (by simp only;omega)⟩,by simp only;omega⟩
 · refine Yb ?_
   exact ⟨t,rfl,ht.mono (by omega)⟩
theorem aE1 (i:Nat) (b:Bool) (x:Scr) (hx:wM x=true) (s:Sta) (h:II 4000 s) (A C:AO):aw Tryz.prog tT (oN [.ce 2 41 10 true] fun y _=>v4 400000 y) ⟨[(1,.ref 0 0 0),(2,.ref 1 0 0),(3,.ref 2 0 0),(4,.ref i 0 0),(22,.bool b)],[.box (jJ x),.box [.aD,.aD,.aD,.aD,.aD,.aD,.aD,.int .i64 0,.int .i64 0,.int .i64 0],.box (stC s),A,C]⟩:=by
 have h80:x.acts.length<=80:=by
  unfold wM at hx
  rw [Bool.and_eq_true] at hx
  exact of_decide_eq_true hx.2
 unfold tT jJ
 refine Yb ?_
 unfold aAZ
 refine Ya ?_
 refine aF (σ:=Nat×Sta) (fun p=>⟨[(1,.ref 0 0 0),(2,.ref 1 0 0),(3,.ref 2 0 0),(6,.int .i64 (p.1:Int))],[.box (jJ x),.box [.aD,.aD,.aD,.aD,.aD,.aD,.aD,.int .i64 0,.int .i64 0,.int .i64 0],.box (stC p.2)]⟩) (fun p=>p.1<=x.acts.length/\II (4000+4000*p.1) p.2) (fun p=>x.acts.length-p.1) (0,s) ?_ ⟨by simp,h⟩ ?_
 · unfold jJ stC
   exact Sub.ofS [some 0,some 1,some 2]
 rintro ⟨k,t⟩ ⟨hk,ht⟩
 simp only at hk ht
 unfold aAY jJ
 by_cases hkl:k<x.acts.length
 · have hg:x.acts.getD k default=x.acts[k]:=by simp [hkl]
   have K:=okS ht (by omega)
   simp -implicitDefEqProofs(disch:=first|decide|omega)only[↓aA,aC,aB,simprocAttr,bB,hg,vP]
   repeat refine And.intro (by omega) ?_
   refine a7 (q58 K.st x.acts[k]) rfl (by rintro _ ⟨_,rfl,_⟩;rfl) ?_
   rintro _ ⟨w,rfl,hi⟩
   refine Yb ?_
   refine a7 (s5 t ht (by omega) w hi) rfl (fun y hy=>fL hy) ?_
   rintro _ ⟨s',e,c,j,g,n,rfl,h'⟩
   refine Yl ?_
   exact ⟨(k+1,s'),.inl rfl,⟨by simp only;omega,h'.mono (by simp only;omega)⟩,by simp only;omega⟩
 · refine Yb ?_
   exact ⟨t,rfl,ht.mono (by omega)⟩
theorem aQe {P:Program} {f:FuncId} {a b b':AV} {H:List AO} {Post:AV->List AO->Prop} (h:aW P f [a,b] H Post) (hw:Wk4 b' b):aW P f [a,b'] H Post :=
 ⟨h.1,fun E vs hm hl hv=>h.2 E vs hm (by simpa using hl) fun k y hk=>by
   match k,hk with
   | 0,hk=>exact hv 0 y hk
   | 1,hk =>
     simp only [List.getElem?_cons_succ,List.getElem?_cons_zero,Option.some.injEq] at hk
     subst hk
     exact hw _ _ _ (hv 1 b' rfl)⟩
theorem aId (tx:List UInt8) (h:tx.length<=4000):aW Tryz.prog 55 [.agg (stC s4),.agg [.int .i64 1,.int .i64 0,.int .i64 0,.int .i64 0,.str tx,.int .i64 0,.int .i64 0,.int .i64 0,.int .i64 0,.int .i64 0,.int .i64 0,.int .i64 0,.bool false,.int .i64 0,.int .i64 0,.str [],.int .i64 0,.int .i64 0,.int .i64 0,.int .i64 0,.aD,.int .i64 0,.int .i64 0,.aD,.aD,.aD,.aD,.aD,.aD,.int .i64 0,.int .i64 0,.int .i64 0,.int .i64 0,.int .i64 0,.int .i64 0]] [] fun y _=>eZ 4000 y:=by
 have:=s5 s4 aBM (by omega) (aBR tx) ⟨h,⟨Nat.zero_le _,Nat.zero_le _,Nat.zero_le _,Nat.zero_le _,Nat.zero_le _,Nat.zero_le _⟩,Nat.zero_le _,Nat.zero_le _,(show (0:Int)<=8999 by decide)⟩
 refine aQe this (.aKn ⟨.refl _,.refl _,.refl _,.refl _,.refl _,.refl _,.refl _,.refl _,.refl _,.refl _,.refl _,.refl _,.refl _,.refl _,.refl _,.refl _,.refl _,.refl _,.refl _,.refl _,.nil,.refl _,.refl _,.nil,.nil,.nil,.nil,.nil,.nil,.refl _,.refl _,.refl _,.refl _,.refl _,.refl _,trivial⟩ fun a ha=>?_)
 simp only [aBR,bZ,List.mem_cons,List.not_mem_nil,or_false] at ha
 (repeat' rcases ha with rfl|ha)<;>first|rfl|(subst ha;rfl)
set_option maxHeartbeats 2000000 in
theorem aGB (x:Scr) (hx:wM x=true):aW Tryz.prog 15 [.agg (jJ x)] [] fun y _=>v4 400000 y:=by
 have h30:x.ns.length<=30:=by
  unfold wM at hx
  rw [Bool.and_eq_true] at hx
  exact of_decide_eq_true hx.1
 have hnew:=aBM
 refine aO aVB (by simp) ?_
 unfold aXT jJ
 have k54:=aHS
 refine Yb ?_
 refine aE (aI.of (aM:=false) (k54) (.refl rfl) rfl (by simp)) ?_
 simp -implicitDefEqProofs(disch:=first|decide|omega)only[↓aA,aC,aB,simprocAttr,bB]
 repeat' first
  | with_reducible apply And.intro
  | (refine a7 (q57 x.shape x.ns h30) rfl (by rintro _ ⟨_,_,rfl,_⟩;rfl) ?_;rintro _ ⟨ls,qs,rfl,hcl⟩;simp -implicitDefEqProofs(disch:=first|decide|omega)only[↓aA,aC,aB,simprocAttr,bB])
  | (refine a7 (aBp ‹CL _ _›) rfl (by rintro _ ⟨_,rfl,_⟩;rfl) ?_;rintro _ ⟨tx,rfl,htx⟩;simp -implicitDefEqProofs(disch:=first|decide|omega)only[↓aA,aC,aB,simprocAttr,bB])
 all_goals
  refine a7 (aId _ ‹_<=4000›) rfl (fun y hy=>fL hy) ?_
  rintro _ ⟨s',e,c,j,g,n,rfl,h'⟩
  simp -implicitDefEqProofs(disch:=first|decide|omega)only[↓aA,aC,aB,simprocAttr,bB,l6]
  repeat' (with_reducible apply And.intro)
 all_goals refine a8 (fun hb=>?_) (fun hb=>?_)
 all_goals simp -implicitDefEqProofs(disch:=first|decide|omega)only[↓aA,aC,aB,simprocAttr,bB,l6]
 all_goals first
  | exact aGR x hx _ h' _ _
  | exact aE1 _ _ x hx s4 (hnew.mono (by omega)) _ _
end Go.Proofs.YtakemdamegfcfaaGreat
