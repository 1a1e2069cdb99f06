/- A part of a proof: what functions of the program compute. No condition. -/
import Derived.Test.YtakemdamegfcfaaGreatT35
import Derived.Test.YtakemdamegfcfaaGreatProg
import Derived.KernelRfl
import Derived.Test.YtakemdamegfcfaaGreatT6
import Derived.Test.YtakemdamegfcfaaGreatT18
set_option linter.unusedSimpArgs false
set_option linter.unusedVariables false
set_option maxHeartbeats 16000000
set_option maxRecDepth 100000
namespace Go.Proofs.YtakemdamegfcfaaGreat
open Go Go.Ab
theorem aMB {B:Nat} (s:Sta) (hs:s.apps.length<=16) (hc:s.conts.length<=201) (x:Inp) (a:App) (hk:a.kills.length<=2^40) (l:List Ask) (g:List Int) (hg:g.length<=2^40) (ht:II B (iJ s (mV a l g s.now x.beat))) :
 aw Tryz.prog qF (oN [.ce 4 41 10 true,.ce 5 94 5 true] fun y _=>∃ z,Wk4 y z/\eZ B z) ⟨[(2,.ref 0 0 0),(3,.ref 1 0 0),(4,.ref 2 0 0),(5,.ref 3 0 0),(6,.ref 4 0 0),(8,.sl false 8 (l.map ASK))],[.box (stC s),.box (bZ x),.box [.aD,.aD,.aD,.aD,.aD,.aD,.aD,.int .i64 0,.int .i64 0,.int .i64 0],.box [.int .i64 0,.aD,.aD,.aD,.int .i64 0],.box (bI { a with grants:=g })]⟩:=by
 unfold qF
 have t149:=fun cl il gl=>aHX s hs x a l g cl il gl ht
 simp -implicitDefEqProofs(disch:=first|decide|omega)only[↓aA,aC,aB,simprocAttr,bB,bI,bZ]
 repeat' first
  | with_reducible apply And.intro
  | (refine a7 (vC false s (by omega) g hg) rfl (by rintro _ ⟨_,rfl⟩;rfl) ?_;rintro _ ⟨_,rfl⟩;simp -implicitDefEqProofs(disch:=first|decide|omega)only[↓aA,aC,aB,simprocAttr,bB,bI,bZ])
  | (refine a7 (qR s (by omega) a.id) rfl (by rintro _ ⟨_,rfl⟩;rfl) ?_;rintro _ ⟨_,rfl⟩;simp -implicitDefEqProofs(disch:=first|decide|omega)only[↓aA,aC,aB,simprocAttr,bB,bI,bZ])
  | omega
 all_goals rename List bD=>cl
 all_goals rename List Int=>il
 all_goals first
  | refine dF 5 rfl ?_
  | refine dF 6 rfl ?_
  | refine dF 7 rfl ?_
 all_goals simp -implicitDefEqProofs(disch:=first|decide|omega)only[↓aA,aC,aB,simprocAttr,AO.fz,AV.fz1,bZ]
 all_goals refine sD ⟨[(2,.ref 0 0 0),(3,.ref 1 0 0),(4,.ref 2 0 0),(5,.ref 3 0 0),(6,.ref 4 0 0),(8,.sl false 8 (l.map ASK)),(13,.ref 5 0 0)],[.box (stC s),.box (bZ x),.box [.aD,.aD,.aD,.aD,.aD,.aD,.aD,.int .i64 0,.int .i64 0,.int .i64 0],.box [.int .i64 0,.aD,.aD,.aD,.int .i64 0],.box (bI { a with grants:=g }),.box (l6 0 cl il a.kills 0)]⟩ ?_ (t149 cl il a.kills)
 all_goals unfold stC bI l6 bZ
 all_goals first
  | (show Sub _ ⟨[_,_,_,_,_,_,(13,AV.ref 5 0 0)],_⟩ _
     (refine Sub.of0 [some 0,some 1,some 2,some 3,some 4,some 5] rfl ?_ rfl ?_<;>repeat' first|trivial|rfl|exact .inl rfl|exact .inr ⟨rfl,_,_,rfl⟩|(simp;done)|(simp;omega)|refine And.intro ?_ ?_))
  | (show Sub _ ⟨[_,_,_,_,_,_,(13,AV.ref 6 0 0)],_⟩ _
     (refine Sub.of0 [some 0,some 1,some 2,some 3,some 4,some 6] rfl ?_ rfl ?_<;>repeat' first|trivial|rfl|exact .inl rfl|exact .inr ⟨rfl,_,_,rfl⟩|(simp;done)|(simp;omega)|refine And.intro ?_ ?_))
  | (show Sub _ ⟨[_,_,_,_,_,_,(13,AV.ref 7 0 0)],_⟩ _
     (refine Sub.of0 [some 0,some 1,some 2,some 3,some 4,some 7] rfl ?_ rfl ?_<;>repeat' first|trivial|rfl|exact .inl rfl|exact .inr ⟨rfl,_,_,rfl⟩|(simp;done)|(simp;omega)|refine And.intro ?_ ?_))
set_option maxHeartbeats 1000000 in
theorem aH4 {B:Nat} (s:Sta) (h:II B s) (hB:B+1<=2^39) (x:Inp) (hx:aBl x) (a:App) (ha:a∈s.apps) :
 aw Tryz.prog tV (oN [.ce 4 41 10 true,.ce 5 94 5 true] fun y _=>∃ z,Wk4 y z/\eZ (B+1) z) ⟨[(2,.ref 0 0 0),(3,.ref 1 0 0),(4,.ref 2 0 0),(5,.ref 3 0 0),(6,.ref 4 0 0)],[.box (stC s),.box (bZ x),.box [.aD,.aD,.aD,.aD,.aD,.aD,.aD,.int .i64 0,.int .i64 0,.int .i64 0],.box [.int .i64 0,.aD,.aD,.aD,.int .i64 0],.box (bI a)]⟩:=by
 have K:=okS h (by omega)
 have hr:=h.aR a ha
 have bad:∀ e:Int,∃ y,Wk4 (.tup [.agg (stC s),.agg [.int .i64 e,.aD,.aD,.aD,.int .i64 0]]) y/\eZ (B+1) y:=fun e=>cO (h.mono (by omega)) e 0 (.inl rfl) (.inl rfl) (.inl rfl)
 unfold tV
 simp -implicitDefEqProofs(disch:=first|decide|omega)only[↓aA,aC,aB,simprocAttr,bB,bI,bZ]
 refine aH (aFi s a.asks x.asks hr.asks hr.ask hx.asks) rfl (fun y hy=>zR hy) ?_
 rintro _ ⟨l,e,rfl,he⟩
 by_cases h0:e=0
 case neg =>
  simp -implicitDefEqProofs(disch:=first|decide|omega)only[↓aA,aC,aB,simprocAttr,bB,h0]
  refine aE (aI.of (aM:=false) (dJ s e) (.refl rfl) rfl (by simp)) ?_
  simp -implicitDefEqProofs(disch:=first|decide|omega)only[↓aA,aC,aB,simprocAttr,bB]
  exact bad e
 obtain ⟨hl8,hlo⟩:=he h0
 simp -implicitDefEqProofs(disch:=first|decide|omega)only[↓aA,aC,aB,simprocAttr,bB,h0]
 unfold aEz
 simp -implicitDefEqProofs(disch:=first|decide|omega)only[↓aA,aC,aB,simprocAttr]
 refine aF (σ:=Nat×Sta×List Int) (fun p=>⟨[(2,.ref 0 0 0),(3,.ref 1 0 0),(4,.ref 2 0 0),(5,.ref 3 0 0),(6,.ref 4 0 0),(8,.sl false 8 (l.map ASK)),(10,.int .i64 (p.1:Int))],[.box (stC p.2.1),.box (bZ x),.box [.aD,.aD,.aD,.aD,.aD,.aD,.aD,.int .i64 0,.int .i64 0,.int .i64 0],.box [.int .i64 0,.aD,.aD,.aD,.int .i64 0],.box (bI { a with grants:=p.2.2 })]⟩) (fun p=>p.1<=x.ids.length/\II B p.2.1/\p.2.2.length<=a.grants.length/\p.2.1.apps=s.apps/\p.2.1.now=s.now) (fun p=>x.ids.length-p.1) (0,s,a.grants) ?_ ⟨by simp,h,Nat.le_refl _,rfl,rfl⟩ ?_
 · (try unfold stC);(try unfold bI);(try unfold bZ)
   (refine Sub.of0 [some 0,some 1,some 2,some 3,some 4] rfl ?_ rfl ?_<;>repeat' first|trivial|rfl|exact .inl rfl|exact .inr ⟨rfl,_,_,rfl⟩|(simp;done)|(simp;omega)|refine And.intro ?_ ?_)
 rintro ⟨k,t,g⟩ ⟨hk,ht,hgl,hap,hno⟩
 simp only at hk ht hgl hap hno
 have hxi:=hx.ids
 have K2:=okS ht (by omega)
 have hgr:=hr.gl
 unfold aEy
 by_cases hkl:k<x.ids.length
 · have hg:x.ids.getD k default=x.ids[k]:=by simp [hkl]
   have c92:=kY t (by have:=K2.st.k;omega) x.ids[k]
   unfold dT at c92
   have hback:=zF a.id [x.ids[k]] (q:=(t,g)) ht
   have hb1:pE a.id [x.ids[k]] (t,g)=lY a.id (t,g) x.ids[k]:=rfl
   rw [hb1] at hback
   unfold lY at hback
   simp only at hback
   simp -implicitDefEqProofs(disch:=first|decide|omega)only[↓aA,aC,aB,simprocAttr,bB,bI,bZ,hg,I64]
   repeat refine And.intro (by omega) ?_
   refine bP (c92) rfl rfl ?_
   cases hf:gR x.ids[k] t.conts with
   | none =>
     simp -implicitDefEqProofs(disch:=first|decide|omega)only[↓aA,aC,aB,simprocAttr,bB,aY,bI,bZ,Option.isSome_none,Option.getD_none]
     refine ⟨(k+1,t,g),?_,⟨by simp only;omega,ht,hgl,hap,hno⟩,by simp only;omega⟩
     (try unfold stC);(try unfold bI);(try unfold bZ)
     (refine Sub.of0 [some 0,some 1,some 2,some 3,some 4] rfl ?_ rfl ?_<;>repeat' first|trivial|rfl|exact .inl rfl|exact .inr ⟨rfl,_,_,rfl⟩|(simp;done)|(simp;omega)|refine And.intro ?_ ?_)
   | some c =>
     rw [hf] at hback
     simp only at hback
     by_cases h1:c.app=a.id
     case neg =>
      simp -implicitDefEqProofs(disch:=first|decide|omega)only[↓aA,aC,aB,simprocAttr,bB,aY,bI,bZ,Option.isSome_some,Option.getD_some,h1]
      refine ⟨(k+1,t,g),?_,⟨by simp only;omega,ht,hgl,hap,hno⟩,by simp only;omega⟩
      (try unfold stC);(try unfold bI);(try unfold bZ)
      (refine Sub.of0 [some 0,some 1,some 2,some 3,some 4] rfl ?_ rfl ?_<;>repeat' first|trivial|rfl|exact .inl rfl|exact .inr ⟨rfl,_,_,rfl⟩|(simp;done)|(simp;omega)|refine And.intro ?_ ?_)
     cases h2:c.master
     case true =>
      simp -implicitDefEqProofs(disch:=first|decide|omega)only[↓aA,aC,aB,simprocAttr,bB,aY,bI,bZ,Option.isSome_some,Option.getD_some,h1,h2]
      refine ⟨(k+1,t,g),?_,⟨by simp only;omega,ht,hgl,hap,hno⟩,by simp only;omega⟩
      (try unfold stC);(try unfold bI);(try unfold bZ)
      (refine Sub.of0 [some 0,some 1,some 2,some 3,some 4] rfl ?_ rfl ?_<;>repeat' first|trivial|rfl|exact .inl rfl|exact .inr ⟨rfl,_,_,rfl⟩|(simp;done)|(simp;omega)|refine And.intro ?_ ?_)
     rw [h1,h2] at hback
     simp only [beq_self_eq_true,Bool.not_false,Bool.and_self,if_true] at hback
     obtain ⟨q1,q2,q3,q4,-⟩:=hback
     simp -implicitDefEqProofs(disch:=first|decide|omega)only[↓aA,aC,aB,simprocAttr,bB,aY,bI,bZ,Option.isSome_some,Option.getD_some,h1,h2]
     refine aE (aI.of (aM:=false) (aEL t (by have:=K2.st.k;omega) c.id) (.refl rfl) rfl (by simp)) ?_
     simp -implicitDefEqProofs(disch:=first|decide|omega)only[↓aA,aC,aB,simprocAttr,bB,aY,bI,bZ]
     refine aE (aI.of (aM:=false) (r9 g (by omega) c.id) (.refl rfl) rfl (by simp)) ?_
     simp -implicitDefEqProofs(disch:=first|decide|omega)only[↓aA,aC,aB,simprocAttr,bB,bI,bZ]
     refine ⟨(k+1,mR t c.id,g.filter fun j=>j !=c.id),?_,⟨by simp only;omega,q1,Nat.le_trans (List.length_filter_le _ _) hgl,q3.trans hap,q4.trans hno⟩,by simp only;omega⟩
     (try unfold stC);(try unfold bI);(try unfold bZ)
     (refine Sub.of0 [some 0,some 1,some 2,some 3,some 4] rfl ?_ rfl ?_<;>repeat' first|trivial|rfl|exact .inl rfl|exact .inr ⟨rfl,_,_,rfl⟩|(simp;done)|(simp;omega)|refine And.intro ?_ ?_)
 · simp -implicitDefEqProofs(disch:=first|decide|omega)only[↓aA,aC,aB,simprocAttr,bB,bI,bZ]
   have key:=aGw ht (a:=a) (by rw [hap];exact ha) (l:=l) (g:=g) (b:=x.beat) hl8 hlo (by omega)
   exact aMB t K2.st.a K2.st.k x a (by have:=hr.kl;omega) l g (by omega) key
set_option maxHeartbeats 1000000 in
theorem aAo {B:Nat} (s:Sta) (h:II B s) (hB:B+1<=2^39) (x:Inp) (hx:aBl x):aW Tryz.prog 102 [.agg (stC s),.agg (bZ x)] [] fun y _=>eZ (B+1) y:=by
 have K:=okS h (by omega)
 have bad:∀ e:Int,∃ y,Wk4 (.tup [.agg (stC s),.agg [.int .i64 e,.aD,.aD,.aD,.int .i64 0]]) y/\eZ (B+1) y:=fun e=>cO (h.mono (by omega)) e 0 (.inl rfl) (.inl rfl) (.inl rfl)
 refine cX (aO aSb (by simp) ?_)
 unfold aP6
 have c40:=gV s (by have:=K.st.a;omega) x.id
 unfold dT at c40
 simp -implicitDefEqProofs(disch:=first|decide|omega)only[↓aA,aC,aB,simprocAttr,bB,bI,bZ]
 refine aE (aI.of (aM:=false) (c40) (.refl rfl) rfl (by simp)) ?_
 cases hf:dP x.id s.apps with
 | none =>
   simp -implicitDefEqProofs(disch:=first|decide|omega)only[↓aA,aC,aB,simprocAttr,bB,a9,bZ,Option.isSome_none,Option.getD_none]
   refine aE (aI.of (aM:=false) (dJ s 2) (.refl rfl) rfl (by simp)) ?_
   simp -implicitDefEqProofs(disch:=first|decide|omega)only[↓aA,aC,aB,simprocAttr,bB]
   exact bad 2
 | some a =>
   have ha:=(jG hf).1
   have hr:=h.aR a ha
   by_cases h1:a.state=2
   case neg =>
    simp -implicitDefEqProofs(disch:=first|decide|omega)only[↓aA,aC,aB,simprocAttr,bB,APP,bI,bZ,Option.isSome_some,Option.getD_some,h1]
    refine aE (aI.of (aM:=false) (dJ s 14) (.refl rfl) rfl (by simp)) ?_
    simp -implicitDefEqProofs(disch:=first|decide|omega)only[↓aA,aC,aB,simprocAttr,bB]
    exact bad 14
   by_cases h2:x.beat<a.beat
   · simp -implicitDefEqProofs(disch:=first|decide|omega)only[↓aA,aC,aB,simprocAttr,bB,APP,bI,bZ,Option.isSome_some,Option.getD_some,h1]
     refine aE (aI.of (aM:=false) (dJ s 15) (.refl rfl) rfl (by simp)) ?_
     simp -implicitDefEqProofs(disch:=first|decide|omega)only[↓aA,aC,aB,simprocAttr,bB]
     exact bad 15
   by_cases h3:x.beat=a.beat
   · have hll:=hr.ll
     simp -implicitDefEqProofs(disch:=first|decide|omega)only[↓aA,aC,aB,simprocAttr,bB,APP,bI,bZ,Option.isSome_some,Option.getD_some,h1,h3]
     repeat' first
      | with_reducible apply And.intro
      | (refine a7 (vC false s (by have:=K.st.k;omega) a.told (by have:=hr.tl;omega)) rfl (by rintro _ ⟨_,rfl⟩;rfl) ?_;rintro _ ⟨_,rfl⟩;simp -implicitDefEqProofs(disch:=first|decide|omega)only[↓aA,aC,aB,simprocAttr,bB,bI,bZ])
      | (refine a7 (qR s (by have:=K.st.k;omega) a.id) rfl (by rintro _ ⟨_,rfl⟩;rfl) ?_;rintro _ ⟨_,rfl⟩;simp -implicitDefEqProofs(disch:=first|decide|omega)only[↓aA,aC,aB,simprocAttr,bB,bI,bZ])
      | omega
     all_goals first
      | refine dF 4 rfl ?_
      | refine dF 5 rfl ?_
      | refine dF 6 rfl ?_
      | refine dF 7 rfl ?_
     all_goals simp -implicitDefEqProofs(disch:=first|decide|omega)only[↓aA,aC,aB,simprocAttr,AO.fz,AV.fz1,bZ]
     all_goals refine dZ ?_
     all_goals simp -implicitDefEqProofs(disch:=first|decide|omega)only[↓aA,aC,aB,simprocAttr,bB]
     all_goals exact cO (h.mono (by omega)) 0 0 (.inr ⟨_,rfl⟩) (.inr ⟨_,rfl⟩) (.inr ⟨_,rfl⟩)
   by_cases h4:IntKind.i64.wrap (x.beat-1)>a.beat
   · simp -implicitDefEqProofs(disch:=first|decide|omega)only[↓aA,aC,aB,simprocAttr,bB,APP,bI,bZ,Option.isSome_some,Option.getD_some,h1,h3,h4]
     refine aE (aI.of (aM:=false) (dJ s 1) (.refl rfl) rfl (by simp)) ?_
     simp -implicitDefEqProofs(disch:=first|decide|omega)only[↓aA,aC,aB,simprocAttr,bB]
     exact bad 1
   · simp -implicitDefEqProofs(disch:=first|decide|omega)only[↓aA,aC,aB,simprocAttr,bB,APP,bI,bZ,Option.isSome_some,Option.getD_some,h1,h3,h4]
     have e:=aH4 s h hB x hx a ha
     unfold bI at e
     rw [h1] at e
     exact e
theorem aG5 {B:Nat} {s:Sta} (h:II B s) (n:Node):II B (kA s n).1:=by
 unfold kA
 split
 · exact h
 rename_i hb
 have hok:mS B s.labels.length s.now (hE s n):=by
  unfold jL at hb
  exact ⟨by simp only [hE];omega,by simp only [hE];omega,by simp only [hE];omega,by simp only [hE];omega,by simp only [hE];omega,⟨by simp only [hE];exact h.now.1,by simp only [hE];exact Int.le_refl _⟩,trivial⟩
 cases hf:eH n.id s.nodes with
 | none =>
   have hn:=List.find?_eq_none.1 hf
   simp only
   split
   · exact h
   · exact aBy h hok (fun x hx he=>absurd he (by have:=hn x hx;simpa [hE] using this)) (.inr (by omega))
 | some x =>
   obtain ⟨hx,hid⟩:=gG hf
   simp only
   split
   · exact h
   · rename_i hu
     refine aBy h hok (fun y hy he=>?_) (.inl ⟨x,hx,hid⟩)
     have h1:=y5 h.nS hy
     have he:y.id=n.id:=he
     rw [he,hf] at h1
     cases h1
     simpa using hu
theorem aGX {B:Nat} {s:Sta} (h:II B s) (hl:(s.apps.filter live).length<16):II B (lU s)/\(lU s).apps.length<16/\(lU s).apps.Sublist s.apps/\(lU s).now=s.now/\(lU s).qs=s.qs:=by
 have haL:=h.aL
 unfold lU
 split
 · have hlen:s.apps.length=16:=by omega
   have:=tG (l:=s.apps) (by omega)
   exact ⟨aKe h (lN _) (fun a ha hv=>qU ha hv),by simp only;omega,lN _,rfl,rfl⟩
 · exact ⟨h,by omega,List.Sublist.refl _,rfl,rfl⟩
theorem aGA {B:Nat} {s:Sta} (h:II B s) (a:App):II B (pJ s a).1:=by
 unfold pJ
 split
 · exact h
 rename_i hb
 split
 · exact h
 rename_i hf
 split
 · exact h
 rename_i hl
 split
 · rename_i hq
   obtain ⟨r1,r2,r3,r4,r5⟩:=aGX h (by omega)
   have hnone:dP a.id s.apps=none:=by simpa using hf
   have hno:=List.find?_eq_none.1 hnone
   have hq60:a.queue.length<=60:=by
    unfold iM at hq
    rw [Bool.and_eq_true] at hq
    obtain ⟨q,hq1⟩:=Option.isSome_iff_exists.1 hq.1
    have h1:=List.mem_of_find?_eq_some hq1
    have h2:=List.find?_some hq1
    have h2:q.path=a.queue:=by simpa using h2
    rw [<- h2]
    exact (h.ck.t.qr q h1).path
   unfold vX at hb
   have hok:iV B (lU s).now (hY a (lU s).now):=aFf r1.now.1 (by omega) (by omega) (by omega) ⟨by omega,by omega,by omega,by omega⟩ hq60
   have:=aNV r1 hok rfl rfl (fun x hx=>by have:=hno x (r3.subset hx);simpa [hY] using this) r2 (by rw [r5];exact hq)
   rw [r4] at this
   exact this
 · exact h
set_option maxHeartbeats 4000000 in
theorem s5 {B:Nat} (s:Sta) (h:II B s) (hB:B+4000<=2^39) (x:Inp) (hx:aBl x):aW Tryz.prog 55 [.agg (stC s),.agg (bZ x)] [] fun y _=>eZ (B+4000) y:=by
 have K:=okS h (by omega)
 have bad:∀ e:Int,∃ y,Wk4 (.tup [.agg (stC s),.agg [.int .i64 e,.aD,.aD,.aD,.int .i64 0]]) y/\eZ (B+4000) y:=fun e=>cO (h.mono (by omega)) e 0 (.inl rfl) (.inl rfl) (.inl rfl)
 have fin:∀ {B':Nat},B'<=B+4000->∀ {s':Sta} {e:Int} {c:List bD} {i g:List Int} {n:Int},II B' s'->∃ y,Wk4 (.tup [.agg (stC s'),.agg (l6 e c i g n)]) y/\eZ (B+4000) y:=fun hb _ _ _ _ _ _ h'=>⟨_,.refl _,_,_,_,_,_,_,rfl,h'.mono hb⟩
 have k100:=aH1 s h (by omega) x.text hx.text
 have k18:=aMm s (by have:=K.st.n;omega) (by have:=K.st.c.l3;omega) x.node
 have k101:=aH3 s h (by omega) x hx
 have k37:=aEY s (by have:=K.st.a;omega) K.q x.app
 have k102:=aAo s h (by omega) x hx
 have k104:=aHY s h hB x.n
 have k105:=aLy s h (by omega) x.plan x.n
 have k106:=aHh s h x.id
 have i18:=aG5 h x.node
 have i37:=aGA h x.app
 unfold sH at k18 k37
 unfold bO cB at k18
 unfold APP bI at k37
 unfold eD fA at k105
 unfold bZ at k101 k102
 generalize kA s x.node=q18 at k18 i18
 generalize pJ s x.app=q37 at k37 i37
 refine cX (aO aVl (by simp) ?_)
 unfold aXz
 by_cases c1:x.kind=1
 · simp -implicitDefEqProofs(disch:=first|decide|omega)only[↓aA,aC,aB,simprocAttr,bB,bZ,c1]
   refine aH k100 rfl (fun y hy=>fL hy) ?_
   rintro _ ⟨s',e,c,i,g,n,rfl,h'⟩
   simp -implicitDefEqProofs(disch:=first|decide|omega)only[↓aA,aC,aB,simprocAttr,bB,l6]
   exact fin (by omega) h'
 by_cases c2:x.kind=2
 · simp -implicitDefEqProofs(disch:=first|decide|omega)only[↓aA,aC,aB,simprocAttr,bB,bZ,c2]
   refine aE (aI.of (aM:=false) (k18) (.refl rfl) rfl (by simp)) ?_
   simp -implicitDefEqProofs(disch:=first|decide|omega)only[↓aA,aC,aB,simprocAttr,bB]
   exact cO (i18.mono (by omega)) _ 0 (.inl rfl) (.inl rfl) (.inl rfl)
 by_cases c3:x.kind=3
 · rw [c3] at k101
   simp -implicitDefEqProofs(disch:=first|decide|omega)only[↓aA,aC,aB,simprocAttr,bB,bZ,c3]
   refine aH k101 rfl (fun y hy=>fL hy) ?_
   rintro _ ⟨s',e,c,i,g,n,rfl,h'⟩
   simp -implicitDefEqProofs(disch:=first|decide|omega)only[↓aA,aC,aB,simprocAttr,bB,l6]
   exact fin (by omega) h'
 by_cases c4:x.kind=4
 · simp -implicitDefEqProofs(disch:=first|decide|omega)only[↓aA,aC,aB,simprocAttr,bB,bZ,c4]
   refine aE (aI.of (aM:=false) (k37) (.refl rfl) rfl (by simp)) ?_
   simp -implicitDefEqProofs(disch:=first|decide|omega)only[↓aA,aC,aB,simprocAttr,bB]
   exact cO (i37.mono (by omega)) _ 0 (.inl rfl) (.inl rfl) (.inl rfl)
 by_cases c5:x.kind=5
 · rw [c5] at k102
   simp -implicitDefEqProofs(disch:=first|decide|omega)only[↓aA,aC,aB,simprocAttr,bB,bZ,c5]
   refine aH k102 rfl (fun y hy=>fL hy) ?_
   rintro _ ⟨s',e,c,i,g,n,rfl,h'⟩
   simp -implicitDefEqProofs(disch:=first|decide|omega)only[↓aA,aC,aB,simprocAttr,bB,l6]
   exact fin (by omega) h'
 by_cases c6:x.kind=6
 · simp -implicitDefEqProofs(disch:=first|decide|omega)only[↓aA,aC,aB,simprocAttr,bB,bZ,c6]
   refine aH (aBE s h (by omega) x.id 3 (.inl rfl)) rfl (fun y hy=>fL hy) ?_
   rintro _ ⟨s',e,c,i,g,n,rfl,h'⟩
   simp -implicitDefEqProofs(disch:=first|decide|omega)only[↓aA,aC,aB,simprocAttr,bB,l6]
   exact fin (by omega) h'
 by_cases c7:x.kind=7
 · simp -implicitDefEqProofs(disch:=first|decide|omega)only[↓aA,aC,aB,simprocAttr,bB,bZ,c7]
   refine aH (aBE s h (by omega) x.id 4 (.inr rfl)) rfl (fun y hy=>fL hy) ?_
   rintro _ ⟨s',e,c,i,g,n,rfl,h'⟩
   simp -implicitDefEqProofs(disch:=first|decide|omega)only[↓aA,aC,aB,simprocAttr,bB,l6]
   exact fin (by omega) h'
 by_cases c8:x.kind=8
 · simp -implicitDefEqProofs(disch:=first|decide|omega)only[↓aA,aC,aB,simprocAttr,bB,bZ,c8]
   refine aH k104 rfl (fun y hy=>fL hy) ?_
   rintro _ ⟨s',e,c,i,g,n,rfl,h'⟩
   simp -implicitDefEqProofs(disch:=first|decide|omega)only[↓aA,aC,aB,simprocAttr,bB,l6]
   exact fin (by omega) h'
 by_cases c9:x.kind=9
 · simp -implicitDefEqProofs(disch:=first|decide|omega)only[↓aA,aC,aB,simprocAttr,bB,bZ,c9]
   refine aH k105 rfl (fun y hy=>aKo hy) ?_
   rintro _ ⟨s',n,e,rfl,h'⟩
   simp -implicitDefEqProofs(disch:=first|decide|omega)only[↓aA,aC,aB,simprocAttr,bB]
   exact cO (h'.mono (by omega)) _ _ (.inl rfl) (.inl rfl) (.inl rfl)
 by_cases c10:x.kind=10
 · simp -implicitDefEqProofs(disch:=first|decide|omega)only[↓aA,aC,aB,simprocAttr,bB,bZ,c10]
   refine aH k106 rfl (fun y hy=>aFT hy) ?_
   rintro _ ⟨s',e,rfl,h'⟩
   simp -implicitDefEqProofs(disch:=first|decide|omega)only[↓aA,aC,aB,simprocAttr,bB]
   exact cO (h'.mono (by omega)) _ _ (.inl rfl) (.inl rfl) (.inl rfl)
 by_cases c11:x.kind=11
 · by_cases he:s.ep>=1048576
   · simp -implicitDefEqProofs(disch:=first|decide|omega)only[↓aA,aC,aB,simprocAttr,bB,bZ,c11,he]
     refine aE (aI.of (aM:=false) (dJ s 11) (.refl rfl) rfl (by simp)) ?_
     simp -implicitDefEqProofs(disch:=first|decide|omega)only[↓aA,aC,aB,simprocAttr,bB]
     exact bad 11
   · have hep:=h.ep
     have h':II (B+4000) _:=(aFP h (by omega)).mono (by omega)
     simp -implicitDefEqProofs(disch:=first|decide|omega)only[↓aA,aC,aB,simprocAttr,bB,bZ,c11,he]
     repeat refine And.intro (by omega) ?_
     exact cO h' _ _ (.inl rfl) (.inl rfl) (.inl rfl)
 simp -implicitDefEqProofs(disch:=first|decide|omega)only[↓aA,aC,aB,simprocAttr,bB,bZ,c1,c2,c3,c4,c5,c6,c7,c8,c9,c10,c11]
 refine aE (aI.of (aM:=false) (dJ s 3) (.refl rfl) rfl (by simp)) ?_
 simp -implicitDefEqProofs(disch:=first|decide|omega)only[↓aA,aC,aB,simprocAttr,bB]
 exact bad 3
def R16:{c:CC // aJ Tryz.prog 16=c}:=⟨_,by conv=>lhs;reduce⟩
def S16:{c:CC // bA Tryz.prog 16 {} R16.1 []=c}:=⟨_,by conv=>lhs;reduce⟩
def a2x:CC:=(fun (c:CC) (_:(S16.1)=c)=>c) _ (by conv=>lhs;reduce)
theorem a2C:aZ Tryz.prog 16 a2x [4] 15:=aZ.mk (by kernel_rfl) ⟨Tryz.f16,_,Tryz.func16,rfl,by kernel_rfl,by kernel_rfl,by kernel_rfl,by kernel_rfl,by kernel_rfl⟩
def R34:{c:CC // aJ Tryz.prog 34=c}:=⟨_,by conv=>lhs;reduce⟩
def S34:{c:CC // bA Tryz.prog 34 {} R34.1 [([1,1,0,1,0,0,1,0,0,0],(.f [1,3,0,2,4,5,6,7]))]=c}:=⟨_,by conv=>lhs;reduce⟩
def aJJ:CC:=(fun (c:CC) (_:(S34.1.aV [1,1,0,1,0,0])=c)=>c) _ (by conv=>lhs;reduce)
def aJK:CC:=(fun (c:CC->CC) (_:(fun a0=>(S34.1.aV [1,1,0,1]).aU [0,0] a0)=c)=>c) _ (by conv=>lhs;reduce) aJJ
def aXI:CC:=(fun (c:CC->CC) (_:(fun a0=>(S34.1).aU [1,1,0,1] a0)=c)=>c) _ (by conv=>lhs;reduce) aJK
theorem aYY:aZ Tryz.prog 34 aXI [2] 30:=aZ.mk (by kernel_rfl) ⟨Tryz.f34,_,Tryz.func34,rfl,by kernel_rfl,by kernel_rfl,by kernel_rfl,by kernel_rfl,by kernel_rfl⟩
def a1C:{c:CC // aJ Tryz.prog 112=c}:=⟨_,by conv=>lhs;reduce⟩
def aZV:{c:CC // bA Tryz.prog 112 {} a1C.1 []=c}:=⟨_,by conv=>lhs;reduce⟩
def aPZ:CC:=(fun (c:CC) (_:(aZV.1)=c)=>c) _ (by conv=>lhs;reduce)
theorem aWJ:aZ Tryz.prog 112 aPZ [4] 15:=aZ.mk (by kernel_rfl) ⟨Tryz.f112,_,Tryz.func112,rfl,by kernel_rfl,by kernel_rfl,by kernel_rfl,by kernel_rfl,by kernel_rfl⟩
def inF (a n:Int):Int:=if a.tmod n<0 then a.tmod n+n else a.tmod n
theorem gO (a n:Int) (h:1<=n):0<=inF a n/\inF a n<n:=by
 have h1:=Int.tmod_lt_of_pos a (show 0<n by omega)
 have h2: -n<a.tmod n:=by
  have:=Int.lt_tmod_of_pos a (show 0<n by omega)
  exact this
 unfold inF
 split<;>omega
theorem dO (a n:Int) (h:1<=n) (h2:n<=1000000):aT Tryz.prog 112 [.int .i64 a,.int .i64 n] (.int .i64 (inF a n)):=by
 unfold aT
 refine aK aWJ (by simp) ?_
 unfold aPZ
 have hr: -n<a.tmod n/\a.tmod n<n:=⟨Int.lt_tmod_of_pos a (by omega),Int.tmod_lt_of_pos a (by omega)⟩
 unfold inF
 generalize hk:a.tmod n=k at hr
 by_cases hc:k<0
 · rw [if_pos hc]
   simp -implicitDefEqProofs(disch:=first|decide|omega)only[↓aA,aC,aB,simprocAttr,hk]
   omega
 · rw [if_neg hc]
   simp -implicitDefEqProofs(disch:=first|decide|omega)only[↓aA,aC,aB,simprocAttr,hk]
   omega
def o6 (qs:List Queue):List Queue:=qs.filter fun q=>iM qs q.path
theorem aFq (ls:List (List UInt8)) (qs:List Queue) (h:QZ qs):aT Tryz.prog 34 [.agg (bN ls qs)] (.sl false 1 (((o6 qs).map Queue.path).map .str)):=by
 have hl:=h.l
 refine aT.wk3 (aK aYY (by simp) ?_)
 unfold aXI bN
 simp -implicitDefEqProofs(disch:=first|decide|omega)only[↓aA,aC,aB,simprocAttr]
 unfold aJK
 simp -implicitDefEqProofs(disch:=first|decide|omega)only[↓aA,aC,aB,simprocAttr]
 refine aF (σ:=Nat) (fun k=>⟨[(1,.ref 0 0 0),(3,.own 1 1 0 ((qs.take k).filter fun q=>iM qs q.path).length),(4,.int .i64 (k:Int))],[.box (bN ls qs),.arr 1 ((((qs.take k).filter fun q=>iM qs q.path).map Queue.path).map .str)]⟩) (fun k=>k<=qs.length) (fun k=>qs.length-k) 0 ?_ (by omega) ?_
 · (refine Sub.of0 [some 0,none] rfl ?_ rfl ?_<;>repeat' first|trivial|rfl|exact .inl rfl|exact .inr ⟨rfl,_,_,rfl⟩|(simp;done)|(simp;omega)|refine And.intro ?_ ?_)
 rintro k hk
 unfold aJJ
 have hfl:=dA (p:=fun q=>iM qs q.path) (l:=qs) (k:=k)
 by_cases hki:k<qs.length
 · have hg:qs.getD k default=qs[k]:=by simp [hki]
   have e:=cH (p:=fun q=>iM qs q.path) hki
   have c69:=sQ ls qs h qs[k].path
   unfold bN at c69
   generalize hout:(qs.take k).filter (fun q=>iM qs q.path)=out at e hfl ⊢
   cases ha:iM qs qs[k].path
   · rw [if_neg (by rw [ha];simp),List.append_nil] at e
     rw [ha] at c69
     simp -implicitDefEqProofs(disch:=first|decide|omega)only[↓aA,aC,aB,simprocAttr,bB,bW,bN,hg]
     repeat refine And.intro (by omega) ?_
     refine aE (aI.of (aM:=false) (c69) (.refl rfl) rfl (by simp)) ?_
     simp -implicitDefEqProofs(disch:=first|decide|omega)only[↓aA,aC,aB,simprocAttr,bB,bW,bN,hg]
     repeat refine And.intro (by omega) ?_
     refine ⟨k+1,?_,by omega,by omega⟩
     simp only [e]
     exact .inl rfl
   · rw [if_pos (by rw [ha])] at e
     rw [ha] at c69
     simp -implicitDefEqProofs(disch:=first|decide|omega)only[↓aA,aC,aB,simprocAttr,bB,bW,bN,hg]
     repeat refine And.intro (by omega) ?_
     refine aE (aI.of (aM:=false) (c69) (.refl rfl) rfl (by simp)) ?_
     simp -implicitDefEqProofs(disch:=first|decide|omega)only[↓aA,aC,aB,simprocAttr,bB,bW,bN,hg]
     repeat refine And.intro (by omega) ?_
     refine ⟨k+1,?_,by omega,by omega⟩
     simp only [e,List.map_append,List.map_cons,List.map_nil,List.length_append,List.length_cons,List.length_nil]
     (refine Sub.of0 [some 0,some 3] rfl ?_ rfl ?_<;>repeat' first|trivial|rfl|exact .inl rfl|exact .inr ⟨rfl,_,_,rfl⟩|(simp;done)|(simp;omega)|refine And.intro ?_ ?_)
 · have:k=qs.length:=by omega
   subst this
   simp -implicitDefEqProofs(disch:=first|decide|omega)only[↓aA,aC,aB,simprocAttr,bB,bN,List.take_length]
   exact .inl (.inl (.inl rfl))
theorem yF:∀ {qs:List Queue},qs≠[]->∃ q∈qs,∀ y∈qs,y.path.length<=q.path.length
 | [q],_=>⟨q,by simp,by simp⟩
 | q :: r :: l,_=>by
   obtain ⟨m,hm,hx⟩:=yF (qs:=r :: l) (by simp)
   by_cases h:m.path.length<=q.path.length
   · exact ⟨q,by simp,fun y hy=>(List.mem_cons.1 hy).elim (fun e=>by rw [e];exact Nat.le_refl _) fun hy=>Nat.le_trans (hx y hy) h⟩
   · exact ⟨m,List.mem_cons_of_mem _ hm,fun y hy=>(List.mem_cons.1 hy).elim (fun e=>by rw [e];omega) fun hy=>hx y hy⟩
theorem aFr {qs:List Queue} (h:qs≠[]):1<=(o6 qs).length:=by
 obtain ⟨q,hq,hm⟩:=yF h
 refine List.length_pos_of_mem (a:=q) (List.mem_filter.2 ⟨hq,?_⟩)
 unfold iM
 rw [Bool.and_eq_true]
 constructor
 · unfold fT
   rw [List.find?_isSome]
   exact ⟨q,hq,by simp⟩
 · rw [List.isEmpty_iff]
   unfold eT
   rw [List.map_eq_nil_iff,List.filter_eq_nil_iff]
   intro y hy hk
   unfold wJ at hk
   rw [Bool.and_eq_true] at hk
   have h1:(dH y.path).1=q.path:=by simpa using hk.2
   have h2:q.path≠[]:=by simpa using hk.1
   have h3:=hm y hy
   by_cases h0:y.path=[]
   · rw [h0] at h1
     refine h2 ?_
     rw [<- h1]
     rfl
   · have:=jH y.path h0
     rw [h1] at this
     omega
end Go.Proofs.YtakemdamegfcfaaGreat
