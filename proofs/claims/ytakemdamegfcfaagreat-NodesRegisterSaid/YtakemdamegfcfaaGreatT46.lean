/- A part of a proof: what functions of the program compute. No condition. -/
import Derived.Test.YtakemdamegfcfaaGreatT23
import Derived.Test.YtakemdamegfcfaaGreatT33
import Derived.Test.YtakemdamegfcfaaGreatT35
import Derived.Test.YtakemdamegfcfaaGreatT36
import Derived.Test.YtakemdamegfcfaaGreatT34
import Derived.Test.YtakemdamegfcfaaGreatT45
import Derived.Test.YtakemdamegfcfaaGreatT16
import Derived.Test.YtakemdamegfcfaaGreatT17
set_option linter.unusedSimpArgs false
set_option linter.unusedVariables false
set_option maxRecDepth 20000
namespace Go.Proofs.YtakemdamegfcfaaGreat
open Go Go.Ab
def xK:Queue:=⟨nO,[⟨10000,10000⟩],10000⟩
def s4:Sta:=⟨[[]],[xK],[],[],[],[],[],0,0,0⟩
theorem aHS:aT Tryz.prog 54 [] (.agg (stC s4)):=by
 refine aT.wk3 (aO aVm (by simp) ?_)
 unfold aXA
 simp -implicitDefEqProofs(disch:=first|decide|omega)only[↓aA,aC,aB,simprocAttr,bB]
 exact .inl (.inr ⟨_,_,rfl,rfl,.inl rfl,.inl rfl,.inr ⟨rfl,_,_,rfl⟩,.inr ⟨rfl,_,_,rfl⟩,.inr ⟨rfl,_,_,rfl⟩,.inr ⟨rfl,_,_,rfl⟩,.inr ⟨rfl,_,_,rfl⟩,.inl rfl,.inl rfl,.inl rfl,trivial⟩)
theorem aM5:e95 [[]] [xK]=0:=by
 have h1:iR [[]] [xK]=0:=by
  unfold iR
  rw [if_neg (by decide),if_neg (by decide),if_neg,if_neg]
  · rintro ⟨i,k,h1,h2,h3,_⟩
    simp only [List.length_singleton] at h3
    omega
  · rintro ⟨i,h1,h2,_⟩
    simp only [List.length_singleton] at h2
    omega
 have h2:l8 [[]] [xK] 0=0:=by
  unfold l8
  rw [if_neg (by decide),if_neg (by rintro ⟨h,_⟩;omega),if_neg (by rintro ⟨h,_⟩;omega)]
  unfold t144
  rw [if_neg (by decide),if_neg]
  rintro ⟨k,h1,h2⟩
  have:k=0:=by
   have:k<1:=h1
   omega
  subst this
  revert h2
  unfold qG
  decide
 unfold e95
 rw [if_neg (by rw [h1];simp),if_neg (by decide),dif_neg,if_neg,if_neg]
 · unfold zG
   rw [if_neg]
   · simp
   rintro ⟨i,k,h1,h2,h3,_⟩
   have:i=0:=by
    have:i<1:=h1
    omega
   subst this
   exact h3 (by decide)
 · rintro ⟨k,h1,h2⟩
   have:k=0:=by
    have:k<1:=h1
    omega
   subst this
   exact h2 rfl
 · rintro ⟨i,g1,g2,_⟩
   have:i=0:=by
    have:i<1:=g1
    omega
   subst this
   exact g2 h2
structure Scr where
 shape:Int
 ns:List Int
 acts:List Act
def jJ (x:Scr):List AV:=[.int .i64 x.shape,.sl true 1 (x.ns.map I64),.sl true 5 (x.acts.map ACT)]
def wM (x:Scr):Bool:=decide (x.ns.length<=30)&&decide (x.acts.length<=80)
theorem aSv (x:Scr):aT Tryz.prog 14 [.agg (jJ x)] (.bool (wM x)):=by
 unfold aT
 refine aK aY0 (by simp) ?_
 unfold aXU jJ wM
 by_cases h1:x.ns.length<=30
 · by_cases h2:x.acts.length<=80
   · simp -implicitDefEqProofs(disch:=first|decide|omega)only[↓aA,aC,aB,simprocAttr,h1,h2]
   · simp -implicitDefEqProofs(disch:=first|decide|omega)only[↓aA,aC,aB,simprocAttr,h1,h2]
 · simp -implicitDefEqProofs(disch:=first|decide|omega)only[↓aA,aC,aB,simprocAttr,h1]
   rfl
theorem vP (x:Act):(ACT x).cells=[.int .i64 x.kind,.int .i64 x.a,.int .i64 x.b,.int .i64 x.c,.int .i64 x.d]:=rfl
theorem aSN:CKK [[]] [xK]:=aIT ⟨by decide,fun x hx=>by
 rw [List.mem_singleton.1 hx];decide,by decide,fun q hq=>by rw [List.mem_singleton.1 hq];decide⟩ aM5
theorem aBM:II 0 s4:=aFK aSN
def v4 (B:Nat) (y:AV):Prop:=∃ s:Sta,y= .agg (stC s)/\II B s
theorem zZ {B:Nat} {y:AV} (h:v4 B y):y.low=true:=by
 obtain ⟨s',rfl,_⟩:=h
 rfl
def aBR (t:List UInt8):Inp:=⟨1,0,0,0,t,⟨0,0,0,0,0,0,0,false⟩,⟨0,0,[],0,0,0,0,[],0,0,[],[],[],[]⟩,[],[],⟨0,0,0,0,0,0⟩⟩
theorem aGR (x:Scr) (hx:wM x=true) (s:Sta) (h:II 4000 s) (A C:AO):aw Tryz.prog tT (oN [.ce 2 41 10 true] fun y _=>v4 400000 y) ⟨[(1,.ref 0 0 0),(2,.ref 1 0 0),(3,.ref 2 0 0)],[.box (jJ x),.box [.aD,.aD,.aD,.aD,.aD,.aD,.aD,.int .i64 0,.int .i64 0,.int .i64 0],.box (stC s),A,C]⟩:=by
 have h80:x.acts.length<=80:=by
  unfold wM at hx
  rw [Bool.and_eq_true] at hx
  exact of_decide_eq_true hx.2
 unfold tT jJ
 simp -implicitDefEqProofs(disch:=first|decide|omega)only[↓aA,aC,aB,simprocAttr,bB]
 unfold aAZ
 simp -implicitDefEqProofs(disch:=first|decide|omega)only[↓aA,aC,aB,simprocAttr]
 refine aF (σ:=Nat×Sta) (fun p=>⟨[(1,.ref 0 0 0),(2,.ref 1 0 0),(3,.ref 2 0 0),(6,.int .i64 (p.1:Int))],[.box (jJ x),.box [.aD,.aD,.aD,.aD,.aD,.aD,.aD,.int .i64 0,.int .i64 0,.int .i64 0],.box (stC p.2)]⟩) (fun p=>p.1<=x.acts.length/\II (4000+4000*p.1) p.2) (fun p=>x.acts.length-p.1) (0,s) ?_ ⟨by simp,h⟩ ?_
 · unfold jJ stC
   (refine Sub.of0 [some 0,some 1,some 2] rfl ?_ rfl ?_<;>repeat' first|trivial|rfl|exact .inl rfl|exact .inr ⟨rfl,_,_,rfl⟩|(simp;done)|(simp;omega)|refine And.intro ?_ ?_)
 rintro ⟨k,t⟩ ⟨hk,ht⟩
 simp only at hk ht
 unfold aAY jJ
 by_cases hkl:k<x.acts.length
 · have hg:x.acts.getD k default=x.acts[k]:=by simp [hkl]
   have K:=okS ht (by omega)
   simp -implicitDefEqProofs(disch:=first|decide|omega)only[↓aA,aC,aB,simprocAttr,bB,hg,vP]
   repeat refine And.intro (by omega) ?_
   refine a7 (q58 K.st x.acts[k]) rfl (by rintro _ ⟨_,rfl,_⟩;rfl) ?_
   rintro _ ⟨i,rfl,hi⟩
   simp -implicitDefEqProofs(disch:=first|decide|omega)only[↓aA,aC,aB,simprocAttr,bB]
   refine a7 (s5 t ht (by omega) i hi) rfl (fun y hy=>fL hy) ?_
   rintro _ ⟨s',e,c,j,g,n,rfl,h'⟩
   simp -implicitDefEqProofs(disch:=first|decide|omega)only[↓aA,aC,aB,simprocAttr,bB,l6]
   exact ⟨(k+1,s'),.inl rfl,⟨by simp only;omega,h'.mono (by simp only;omega)⟩,by simp only;omega⟩
 · simp -implicitDefEqProofs(disch:=first|decide|omega)only[↓aA,aC,aB,simprocAttr,bB]
   exact ⟨t,rfl,ht.mono (by omega)⟩
theorem aE1 (i:Nat) (b:Bool) (x:Scr) (hx:wM x=true) (s:Sta) (h:II 4000 s) (A C:AO):aw Tryz.prog tT (oN [.ce 2 41 10 true] fun y _=>v4 400000 y) ⟨[(1,.ref 0 0 0),(2,.ref 1 0 0),(3,.ref 2 0 0),(4,.ref i 0 0),(22,.bool b)],[.box (jJ x),.box [.aD,.aD,.aD,.aD,.aD,.aD,.aD,.int .i64 0,.int .i64 0,.int .i64 0],.box (stC s),A,C]⟩:=by
 have h80:x.acts.length<=80:=by
  unfold wM at hx
  rw [Bool.and_eq_true] at hx
  exact of_decide_eq_true hx.2
 unfold tT jJ
 simp -implicitDefEqProofs(disch:=first|decide|omega)only[↓aA,aC,aB,simprocAttr,bB]
 unfold aAZ
 simp -implicitDefEqProofs(disch:=first|decide|omega)only[↓aA,aC,aB,simprocAttr]
 refine aF (σ:=Nat×Sta) (fun p=>⟨[(1,.ref 0 0 0),(2,.ref 1 0 0),(3,.ref 2 0 0),(6,.int .i64 (p.1:Int))],[.box (jJ x),.box [.aD,.aD,.aD,.aD,.aD,.aD,.aD,.int .i64 0,.int .i64 0,.int .i64 0],.box (stC p.2)]⟩) (fun p=>p.1<=x.acts.length/\II (4000+4000*p.1) p.2) (fun p=>x.acts.length-p.1) (0,s) ?_ ⟨by simp,h⟩ ?_
 · unfold jJ stC
   (refine Sub.of0 [some 0,some 1,some 2] rfl ?_ rfl ?_<;>repeat' first|trivial|rfl|exact .inl rfl|exact .inr ⟨rfl,_,_,rfl⟩|(simp;done)|(simp;omega)|refine And.intro ?_ ?_)
 rintro ⟨k,t⟩ ⟨hk,ht⟩
 simp only at hk ht
 unfold aAY jJ
 by_cases hkl:k<x.acts.length
 · have hg:x.acts.getD k default=x.acts[k]:=by simp [hkl]
   have K:=okS ht (by omega)
   simp -implicitDefEqProofs(disch:=first|decide|omega)only[↓aA,aC,aB,simprocAttr,bB,hg,vP]
   repeat refine And.intro (by omega) ?_
   refine a7 (q58 K.st x.acts[k]) rfl (by rintro _ ⟨_,rfl,_⟩;rfl) ?_
   rintro _ ⟨w,rfl,hi⟩
   simp -implicitDefEqProofs(disch:=first|decide|omega)only[↓aA,aC,aB,simprocAttr,bB]
   refine a7 (s5 t ht (by omega) w hi) rfl (fun y hy=>fL hy) ?_
   rintro _ ⟨s',e,c,j,g,n,rfl,h'⟩
   simp -implicitDefEqProofs(disch:=first|decide|omega)only[↓aA,aC,aB,simprocAttr,bB,l6]
   exact ⟨(k+1,s'),.inl rfl,⟨by simp only;omega,h'.mono (by simp only;omega)⟩,by simp only;omega⟩
 · simp -implicitDefEqProofs(disch:=first|decide|omega)only[↓aA,aC,aB,simprocAttr,bB]
   exact ⟨t,rfl,ht.mono (by omega)⟩
theorem aQe {P:Program} {f:FuncId} {a b b':AV} {H:List AO} {Post:AV->List AO->Prop} (h:aW P f [a,b] H Post) (hw:Wk4 b' b):aW P f [a,b'] H Post :=
 ⟨h.1,fun E vs hm hl hv=>h.2 E vs hm (by simpa using hl) fun k y hk=>by
   match k,hk with
   | 0,hk=>exact hv 0 y hk
   | 1,hk =>
     simp only [List.getElem?_cons_succ,List.getElem?_cons_zero,Option.some.injEq] at hk
     subst hk
     exact hw _ _ _ (hv 1 b' rfl)⟩
theorem aId (tx:List UInt8) (h:tx.length<=4000):aW Tryz.prog 55 [.agg (stC s4),.agg [.int .i64 1,.int .i64 0,.int .i64 0,.int .i64 0,.str tx,.int .i64 0,.int .i64 0,.int .i64 0,.int .i64 0,.int .i64 0,.int .i64 0,.int .i64 0,.bool false,.int .i64 0,.int .i64 0,.str [],.int .i64 0,.int .i64 0,.int .i64 0,.int .i64 0,.aD,.int .i64 0,.int .i64 0,.aD,.aD,.aD,.aD,.aD,.aD,.int .i64 0,.int .i64 0,.int .i64 0,.int .i64 0,.int .i64 0,.int .i64 0]] [] fun y _=>eZ 4000 y:=by
 have:=s5 s4 aBM (by omega) (aBR tx) ⟨h,⟨Nat.zero_le _,Nat.zero_le _,Nat.zero_le _,Nat.zero_le _,Nat.zero_le _,Nat.zero_le _⟩,Nat.zero_le _,Nat.zero_le _⟩
 refine aQe this (.aKn ⟨.refl _,.refl _,.refl _,.refl _,.refl _,.refl _,.refl _,.refl _,.refl _,.refl _,.refl _,.refl _,.refl _,.refl _,.refl _,.refl _,.refl _,.refl _,.refl _,.refl _,.nil,.refl _,.refl _,.nil,.nil,.nil,.nil,.nil,.nil,.refl _,.refl _,.refl _,.refl _,.refl _,.refl _,trivial⟩ fun a ha=>?_)
 simp only [aBR,bZ,List.mem_cons,List.not_mem_nil,or_false] at ha
 (repeat' rcases ha with rfl|ha)<;>first|rfl|(subst ha;rfl)
set_option maxHeartbeats 2000000 in
theorem aGB (x:Scr) (hx:wM x=true):aW Tryz.prog 15 [.agg (jJ x)] [] fun y _=>v4 400000 y:=by
 have h30:x.ns.length<=30:=by
  unfold wM at hx
  rw [Bool.and_eq_true] at hx
  exact of_decide_eq_true hx.1
 have hnew:=aBM
 refine aO aVB (by simp) ?_
 unfold aXT jJ
 have k54:=aHS
 simp -implicitDefEqProofs(disch:=first|decide|omega)only[↓aA,aC,aB,simprocAttr,bB]
 refine aE (aI.of (aM:=false) (k54) (.refl rfl) rfl (by simp)) ?_
 simp -implicitDefEqProofs(disch:=first|decide|omega)only[↓aA,aC,aB,simprocAttr,bB]
 repeat' first
  | with_reducible apply And.intro
  | (refine a7 (q57 x.shape x.ns h30) rfl (by rintro _ ⟨_,_,rfl,_⟩;rfl) ?_;rintro _ ⟨ls,qs,rfl,hcl⟩;simp -implicitDefEqProofs(disch:=first|decide|omega)only[↓aA,aC,aB,simprocAttr,bB])
  | (refine a7 (aBp ‹CL _ _›) rfl (by rintro _ ⟨_,rfl,_⟩;rfl) ?_;rintro _ ⟨tx,rfl,htx⟩;simp -implicitDefEqProofs(disch:=first|decide|omega)only[↓aA,aC,aB,simprocAttr,bB])
 all_goals
  refine a7 (aId _ ‹_<=4000›) rfl (fun y hy=>fL hy) ?_
  rintro _ ⟨s',e,c,j,g,n,rfl,h'⟩
  simp -implicitDefEqProofs(disch:=first|decide|omega)only[↓aA,aC,aB,simprocAttr,bB,l6]
  repeat' (with_reducible apply And.intro)
 all_goals refine a8 (fun hb=>?_) (fun hb=>?_)
 all_goals simp -implicitDefEqProofs(disch:=first|decide|omega)only[↓aA,aC,aB,simprocAttr,bB,l6]
 all_goals first
  | exact aGR x hx _ h' _ _
  | exact aE1 _ _ x hx s4 (hnew.mono (by omega)) _ _
def n3:Node:=⟨3,0,0,8,4,0,0,false⟩
def n3u:Node:=⟨3,0,0,8,4,0,0,true⟩
def aFe:Sta:={ s4 with nodes:=[n3u] }
theorem aSD:CT s4.labels s4.qs:=⟨by decide,by decide,fun x hx=>by rw [List.mem_singleton.1 hx];decide,by decide,by decide,fun q hq=>by rw [List.mem_singleton.1 hq];exact ⟨by decide,by decide⟩⟩
theorem aMq:NOk s4:=⟨aSD,by decide,by decide,(fun a ha=>by cases ha),by decide,by decide,by decide⟩
theorem aUo {a b c d:Int} {K:AV->Prop} (h:K (.bool (a==c&&b==d))):aGO false [.int .i64 0,.int .i64 0] (.agg [.int .i64 a,.int .i64 b]) (.agg [.int .i64 c,.int .i64 d]) K:=⟨_,rfl,by rw [Bool.and_true];exact h⟩
theorem aN4 {a b c d:Int} {K:AV->Prop} (h:K (.bool (!(a==c&&b==d)))):aGO true [.int .i64 0,.int .i64 0] (.agg [.int .i64 a,.int .i64 b]) (.agg [.int .i64 c,.int .i64 d]) K:=⟨_,rfl,by rw [Bool.and_true];exact h⟩
theorem aIe:aT Tryz.prog 13 [] (.bool true):=by
 have k54:=aHS
 have k17:=aLl s4 aMq .nil n3
 have er:kA s4 n3=(aFe,0):=rfl
 rw [er] at k17
 have k23:=xV aFe (by decide) 3
 have ef:eH 3 aFe.nodes=some n3u:=rfl
 rw [ef] at k23
 have k21:=xU aFe (by decide) (by decide) (fun c hc=>by cases hc) (fun n hn=>by rw [List.mem_singleton.1 hn];decide) 3
 have e1:(eY 3 aFe).1=8:=rfl
 have e2:(eY 3 aFe).2=4:=rfl
 rw [e1,e2] at k21
 unfold sH at k17
 unfold dT at k23
 simp only [Option.getD_some,Option.isSome_some] at k23
 unfold aT
 refine aK aY1 (by simp) ?_
 unfold aXV
 simp -implicitDefEqProofs(disch:=first|decide|omega)only[↓aA,aC,aB,simprocAttr,bB]
 refine aE (aI.of (aM:=false) (k54) (.refl rfl) rfl (by simp)) ?_
 simp -implicitDefEqProofs(disch:=first|decide|omega)only[↓aA,aC,aB,simprocAttr,bB]
 refine aE (aI.of (aM:=false) (k17) (.refl rfl) rfl (by simp)) ?_
 simp -implicitDefEqProofs(disch:=first|decide|omega)only[↓aA,aC,aB,simprocAttr,bB]
 refine aE (aI.of (aM:=false) (k23) (.refl rfl) rfl (by simp)) ?_
 have hu:n3u.up=true:=rfl
 have hb:n3u.beat=0:=rfl
 simp -implicitDefEqProofs(disch:=first|decide|omega)only[↓aA,aC,aB,simprocAttr,bB,aN,hu,hb]
 refine aE (aI.of (aM:=false) (k21) (.refl rfl) rfl (by simp)) ?_
 simp -implicitDefEqProofs(disch:=first|decide|omega)only[↓aA,aC,aB,simprocAttr,bB,aN]
 refine aUo ?_
 simp -implicitDefEqProofs(disch:=first|decide|omega)only[↓aA,aC,aB,simprocAttr]
set_option maxHeartbeats 4000000 in
theorem aWT (x:Scr):aW Tryz.prog 4 [.agg (jJ x)] [] fun y _=>y= .bool true:=by
 refine aK is4 (by simp) ?_
 unfold cc4
 have kf:=aSv x
 have ks:=aGB x
 generalize hx:wM x=b at kf ks
 unfold jJ at kf ks ⊢
 simp -implicitDefEqProofs(disch:=first|decide|omega)only[↓aA,aC,aB,simprocAttr,bB]
 refine aE (aI.of (aM:=false) (aIe) (.refl rfl) rfl (by simp)) ?_
 simp -implicitDefEqProofs(disch:=first|decide|omega)only[↓aA,aC,aB,simprocAttr,bB]
 refine aE (aI.of (aM:=false) (kf) (.refl rfl) rfl (by simp)) ?_
 cases b
 · simp -implicitDefEqProofs(disch:=first|decide|omega)only[↓aA,aC,aB,simprocAttr,bB]
 simp -implicitDefEqProofs(disch:=first|decide|omega)only[↓aA,aC,aB,simprocAttr,bB]
 refine aH (ks rfl) rfl (fun y hy=>zZ hy) ?_
 rintro _ ⟨s,rfl,h⟩
 have K:=okS h (by omega)
 simp -implicitDefEqProofs(disch:=first|decide|omega)only[↓aA,aC,aB,simprocAttr,bB]
 unfold aOm
 simp -implicitDefEqProofs(disch:=first|decide|omega)only[↓aA,aC,aB,simprocAttr]
 refine aF (σ:=Nat) (fun i=>⟨[(3,.ref 0 0 0),(4,.int .i64 (i:Int))],[.box (stC s)]⟩) (fun i=>i<=s.nodes.length) (fun i=>s.nodes.length-i) 0 ?_ (by omega) ?_
 · unfold stC
   (refine Sub.of0 [some 1] rfl ?_ rfl ?_<;>repeat' first|trivial|rfl|exact .inl rfl|exact .inr ⟨rfl,_,_,rfl⟩|(simp;done)|(simp;omega)|refine And.intro ?_ ?_)
 intro i hi
 unfold aOl
 by_cases hil:i<s.nodes.length
 · have hg:s.nodes.getD i default=s.nodes[i]:=by simp [hil]
   have hN:=fun n hn=>h.nR n hn
   have hcL:=h.cL
   have hnL:=h.nL
   have hfl:=(o7 h (List.getElem_mem hil)).1
   have hf2:s.nodes[i].up=false->(bR s.nodes[i].id s.conts).1=0/\(bR s.nodes[i].id s.conts).2=0/\(eY s.nodes[i].id s).1=0/\(eY s.nodes[i].id s).2=0:=fun hu=>by
    obtain ⟨e1,e2⟩:=(o7 h (List.getElem_mem hil)).2 hu
    rw [e1,e2]
    exact ⟨rfl,rfl,rfl,rfl⟩
   have hno:=K.no s.nodes[i] (List.getElem_mem hil)
   have hr:=kM (id:=s.nodes[i].id) K.co
   have c20:=xS s (by omega) K.co s.nodes[i].id
   have c21:=xU s (by omega) (by omega) K.co K.no s.nodes[i].id
   unfold stC at c20 c21
   generalize (bR s.nodes[i].id s.conts).1=u1 at *
   generalize (bR s.nodes[i].id s.conts).2=u2 at *
   generalize (eY s.nodes[i].id s).1=v1 at *
   generalize (eY s.nodes[i].id s).2=v2 at *
   cases hu:s.nodes[i].up
   · obtain ⟨rfl,rfl,rfl,rfl⟩:=hf2 hu
     simp -implicitDefEqProofs(disch:=first|decide|omega)only[↓aA,aC,aB,simprocAttr,bB,aN,hg,hu]
     repeat refine And.intro (by omega) ?_
     repeat' first
      | with_reducible apply And.intro
      | (refine bP (c20) rfl rfl ?_;simp -implicitDefEqProofs(disch:=first|decide|omega)only[↓aA,aC,aB,simprocAttr,bB,aN,hu])
      | (refine bP (c21) rfl rfl ?_;simp -implicitDefEqProofs(disch:=first|decide|omega)only[↓aA,aC,aB,simprocAttr,bB,aN,hu])
      | (refine aN4 ?_;simp -implicitDefEqProofs(disch:=first|decide|omega)only[↓aA,aC,aB,simprocAttr,bB,aN,hu,beq_self_eq_true,Bool.and_self,Bool.not_true])
      | exact ⟨i+1,(by (refine Sub.of0 [some 0] rfl ?_ rfl ?_<;>repeat' first|trivial|rfl|exact .inl rfl|exact .inr ⟨rfl,_,_,rfl⟩|(simp;done)|(simp;omega)|refine And.intro ?_ ?_)),by omega,by omega⟩
   · obtain ⟨f1,f2⟩:=hfl hu
     have c22:=aBz u1 u2 v1 v2 (by omega) (by omega)
     rw [f1,f2] at c22
     simp -implicitDefEqProofs(disch:=first|decide|omega)only[↓aA,aC,aB,simprocAttr,bB,aN,hg,hu]
     repeat refine And.intro (by omega) ?_
     repeat' first
      | with_reducible apply And.intro
      | (refine bP (c20) rfl rfl ?_;simp -implicitDefEqProofs(disch:=first|decide|omega)only[↓aA,aC,aB,simprocAttr,bB,aN,hu])
      | (refine bP (c21) rfl rfl ?_;simp -implicitDefEqProofs(disch:=first|decide|omega)only[↓aA,aC,aB,simprocAttr,bB,aN,hu])
      | (refine bP (c22) rfl rfl ?_;simp -implicitDefEqProofs(disch:=first|decide|omega)only[↓aA,aC,aB,simprocAttr,bB,aN,hu])
      | (refine aN4 ?_;simp -implicitDefEqProofs(disch:=first|decide|omega)only[↓aA,aC,aB,simprocAttr,bB,aN,hu,beq_self_eq_true,Bool.and_self,Bool.not_true])
      | exact ⟨i+1,(by (refine Sub.of0 [some 0] rfl ?_ rfl ?_<;>repeat' first|trivial|rfl|exact .inl rfl|exact .inr ⟨rfl,_,_,rfl⟩|(simp;done)|(simp;omega)|refine And.intro ?_ ?_)),by omega,by omega⟩
 · simp -implicitDefEqProofs(disch:=first|decide|omega)only[↓aA,aC,aB,simprocAttr,bB]
end Go.Proofs.YtakemdamegfcfaaGreat
