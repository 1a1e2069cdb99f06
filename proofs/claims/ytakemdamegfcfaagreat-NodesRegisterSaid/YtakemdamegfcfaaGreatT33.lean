/- A part of a proof: what functions of the program compute. No condition. -/
import Derived.Test.YtakemdamegfcfaaGreatProg
import Derived.KernelRfl
import Derived.Test.YtakemdamegfcfaaGreatT6
import Derived.Test.YtakemdamegfcfaaGreatT32
import Derived.Test.YtakemdamegfcfaaGreatT23
import Derived.Test.YtakemdamegfcfaaGreatT25
set_option linter.unusedSimpArgs false
set_option linter.unusedVariables false
set_option maxHeartbeats 16000000
set_option maxRecDepth 100000
namespace Go.Proofs.YtakemdamegfcfaaGreat
open Go Go.Ab
def a1M:{c:CC // aJ Tryz.prog 101=c}:=⟨_,by conv=>lhs;reduce⟩
def aN0:{c:CC // bA Tryz.prog 101 {} a1M.1 [([1,1,0,1,0,0],(.f [2,0,1,3,2004,5,6,7])),([1,1,1,1,1,1,0,1,0,0,1,0,0,0],(.f [1,3,0,2,4,1005,10,2006,7,8,9,11,12])),([1,1,1,1,1,1,1,1,1,0],(.f [2,0,1,3,2004,5,6,7]))]=c}:=⟨_,by conv=>lhs;reduce⟩
def aEA:CC:=(fun (c:CC) (_:(aN0.1.aV [1,1,1,1,1,1,0,1,0,0])=c)=>c) _ (by conv=>lhs;reduce)
def aEB:CC:=(fun (c:CC->CC) (_:(fun a0=>(aN0.1.aV [1,1,1,1,1,1,0,1]).aU [0,0] a0)=c)=>c) _ (by conv=>lhs;reduce) aEA
def pC:CC:=(fun (c:CC->CC) (_:(fun a0=>(aN0.1.aV [1,1,1]).aU [1,1,1,0,1] a0)=c)=>c) _ (by conv=>lhs;reduce) aEB
def aP7:CC:=(fun (c:CC->CC) (_:(fun a0=>(aN0.1).aU [1,1,1] a0)=c)=>c) _ (by conv=>lhs;reduce) pC
theorem aSc:aX Tryz.prog 101 aP7 [.ce 4 41 10 true,.ce 5 94 5 true] 101:=aX.mk (by kernel_rfl) ⟨Tryz.f101,_,Tryz.func101,rfl,by kernel_rfl,by kernel_rfl,by kernel_rfl,by kernel_rfl,by kernel_rfl⟩ ⟨by kernel_rfl,by kernel_rfl,trivial⟩
def a1K:{c:CC // aJ Tryz.prog 103=c}:=⟨_,by conv=>lhs;reduce⟩
def aZ0:{c:CC // bA Tryz.prog 103 {} a1K.1 []=c}:=⟨_,by conv=>lhs;reduce⟩
def aP5:CC:=(fun (c:CC) (_:(aZ0.1)=c)=>c) _ (by conv=>lhs;reduce)
theorem aSa:aX Tryz.prog 103 aP5 [.ce 6 41 10 true,.ce 7 94 5 true] 41:=aX.mk (by kernel_rfl) ⟨Tryz.f103,_,Tryz.func103,rfl,by kernel_rfl,by kernel_rfl,by kernel_rfl,by kernel_rfl,by kernel_rfl⟩ ⟨by kernel_rfl,by kernel_rfl,trivial⟩
def a1J:{c:CC // aJ Tryz.prog 104=c}:=⟨_,by conv=>lhs;reduce⟩
def aBk:{c:CC // bA Tryz.prog 104 {} a1J.1 [([1,1,1,1,1,1,0,1,0,0,1,0,0,0],(.f [1,2,3,6,7,8,1004,1009,0,5,10,11])),([1,1,1,1,1,1,0,1,0,0,1,0,0,1],(.f [2,3,4,1005,0,1,2006,7,8])),([1,1,1,1,1,1,1,1,0,1,0,0,1,0,0],(.f [2,3,4,1005,0,1,2006,7,8,9])),([1,1,1,1,1,1,1,1,1,1,1,1,1,0],(.f [0,1,2,2003,4,5,6]))]=c}:=⟨_,by conv=>lhs;reduce⟩
def aEu:CC:=(fun (c:CC) (_:(aBk.1.aV [1,1,1,1,1,1,1,1,1,1,0,1,0,0])=c)=>c) _ (by conv=>lhs;reduce)
def aEx:CC:=(fun (c:CC->CC) (_:(fun a0=>(aBk.1.aV [1,1,1,1,1,1,1,1,1,1,0,1]).aU [0,0] a0)=c)=>c) _ (by conv=>lhs;reduce) aEu
def aEt:CC:=(fun (c:CC) (_:(aBk.1.aV [1,1,1,1,1,1,1,1,0,1,0,0])=c)=>c) _ (by conv=>lhs;reduce)
def aEw:CC:=(fun (c:CC->CC) (_:(fun a0=>(aBk.1.aV [1,1,1,1,1,1,1,1,0,1]).aU [0,0] a0)=c)=>c) _ (by conv=>lhs;reduce) aEt
def aEs:CC:=(fun (c:CC) (_:(aBk.1.aV [1,1,1,1,1,1,0,1,0,0])=c)=>c) _ (by conv=>lhs;reduce)
def aEv:CC:=(fun (c:CC->CC) (_:(fun a0=>(aBk.1.aV [1,1,1,1,1,1,0,1]).aU [0,0] a0)=c)=>c) _ (by conv=>lhs;reduce) aEs
def aP4:CC:=(fun (c:CC->CC->CC->CC) (_:(fun a0 a1 a2=>(((aBk.1).aU [1,1,1,1,1,1,0,1] a0).aU [1,1,1,1,1,1,1,1,0,1] a1).aU [1,1,1,1,1,1,1,1,1,1,0,1] a2)=c)=>c) _ (by conv=>lhs;reduce) aEv aEw aEx
theorem aR9:aX Tryz.prog 104 aP4 [.ce 4 41 10 true,.ce 5 94 5 true] 117:=aX.mk (by kernel_rfl) ⟨Tryz.f104,_,Tryz.func104,rfl,by kernel_rfl,by kernel_rfl,by kernel_rfl,by kernel_rfl,by kernel_rfl⟩ ⟨by kernel_rfl,by kernel_rfl,trivial⟩
def a1H:{c:CC // aJ Tryz.prog 107=c}:=⟨_,by conv=>lhs;reduce⟩
def aZZ:{c:CC // bA Tryz.prog 107 {} a1H.1 []=c}:=⟨_,by conv=>lhs;reduce⟩
def aP1:CC:=(fun (c:CC) (_:(aZZ.1)=c)=>c) _ (by conv=>lhs;reduce)
theorem aR6:aX Tryz.prog 107 aP1 [.ce 4 41 10 true,.ce 5 94 5 true] 9:=aX.mk (by kernel_rfl) ⟨Tryz.f107,_,Tryz.func107,rfl,by kernel_rfl,by kernel_rfl,by kernel_rfl,by kernel_rfl,by kernel_rfl⟩ ⟨by kernel_rfl,by kernel_rfl,trivial⟩
structure Inp where
 kind:Int
 id:Int
 beat:Int
 n:Int
 text:List UInt8
 node:Node
 app:App
 asks:List Ask
 ids:List Int
 plan:dR
def bZ (x:Inp):List AV:=[.int .i64 x.kind,.int .i64 x.id,.int .i64 x.beat,.int .i64 x.n,.str x.text,
 .int .i64 x.node.id,.int .i64 x.node.label,.int .i64 x.node.rack,.int .i64 x.node.mem,.int .i64 x.node.cores,.int .i64 x.node.seen,.int .i64 x.node.beat,.bool x.node.up,
 .int .i64 x.app.id,.int .i64 x.app.state,.str x.app.queue,.int .i64 x.app.user,.int .i64 x.app.prio,.int .i64 x.app.mem,.int .i64 x.app.cores,.sl false 8 (x.app.asks.map ASK),.int .i64 x.app.seen,.int .i64 x.app.beat,.sl false 1 (x.app.grants.map I64),.sl false 1 (x.app.kills.map I64),.sl false 1 (x.app.told.map I64),.sl false 1 (x.app.lost.map I64),
 .sl false 8 (x.asks.map ASK),.sl false 1 (x.ids.map I64),
 .int .i64 x.plan.id,.int .i64 x.plan.label,.int .i64 x.plan.frm,.int .i64 x.plan.til,.int .i64 x.plan.mem,.int .i64 x.plan.cores]
structure aBl (x:Inp):Prop where
 text:x.text.length<=4000
 app:AT x.app
 asks:x.asks.length<=8
 ids:x.ids.length<=201
def l6 (e:Int) (c:List bD) (i g:List Int) (n:Int):List AV:=[.int .i64 e,.sl false 9 (c.map bY),.sl false 1 (i.map I64),.sl false 1 (g.map I64),.int .i64 n]
def eZ (B:Nat) (y:AV):Prop:=∃ s':Sta,∃ e:Int,∃ c:List bD,∃ i g:List Int,∃ n:Int,y= .tup [.agg (stC s'),.agg (l6 e c i g n)]/\II B s'
theorem fL {B:Nat} {y:AV} (h:eZ B y):y.low=true:=by
 obtain ⟨s',e,c,i,g,n,rfl,_⟩:=h
 rfl
theorem eZ.mono {B B':Nat} {y:AV} (h:eZ B y) (hb:B<=B'):eZ B' y:=by
 obtain ⟨s',e,c,i,g,n,rfl,h⟩:=h
 exact ⟨s',e,c,i,g,n,rfl,h.mono hb⟩
theorem Wk4.of3 {r y:AV} (h:Wk3 r y):Wk4 r y:=fun _ _ _ hv=>h.vr hv
theorem cO {B:Nat} {s':Sta} (h:II B s') (e n:Int) {c i g:AV} (hc:c= .aD∨∃ l:List bD,c= .sl false 9 (l.map bY)) (hi:i= .aD∨∃ l:List Int,i= .sl false 1 (l.map I64)) (hg:g= .aD∨∃ l:List Int,g= .sl false 1 (l.map I64)) :
 ∃ y,Wk4 (.tup [.agg (stC s'),.agg [.int .i64 e,c,i,g,.int .i64 n]]) y/\eZ B y:=by
 obtain ⟨lc,hc⟩:∃ l:List bD,Wk1 c (.sl false 9 (l.map bY)):=by
  rcases hc with rfl|⟨l,rfl⟩
  · exact ⟨[],.inr ⟨rfl,_,_,rfl⟩⟩
  · exact ⟨l,.inl rfl⟩
 obtain ⟨li,hi⟩:∃ l:List Int,Wk1 i (.sl false 1 (l.map I64)):=by
  rcases hi with rfl|⟨l,rfl⟩
  · exact ⟨[],.inr ⟨rfl,_,_,rfl⟩⟩
  · exact ⟨l,.inl rfl⟩
 obtain ⟨lg,hg⟩:∃ l:List Int,Wk1 g (.sl false 1 (l.map I64)):=by
  rcases hg with rfl|⟨l,rfl⟩
  · exact ⟨[],.inr ⟨rfl,_,_,rfl⟩⟩
  · exact ⟨l,.inl rfl⟩
 exact ⟨.tup [.agg (stC s'),.agg (l6 e lc li lg n)],.of3 (.inr ⟨_,_,rfl,rfl,.inl (.inl rfl),.inr ⟨_,_,rfl,rfl,.inl rfl,hc,hi,hg,.inl rfl,trivial⟩,trivial⟩),s',e,lc,li,lg,n,rfl,h⟩
theorem dJ (s:Sta) (e:Int):aT Tryz.prog 107 [.agg (stC s),.int .i64 e] (.tup [.agg (stC s),.agg [.int .i64 e,.aD,.aD,.aD,.int .i64 0]]):=by
 unfold aT
 refine aO aR6 (by simp) ?_
 unfold aP1
 simp -implicitDefEqProofs(disch:=first|decide|omega)only[↓aA,aC,aB,simprocAttr,bB]
set_option maxHeartbeats 1000000 in
theorem aH3 {B:Nat} (s:Sta) (h:II B s) (hB:B+210<=2^39) (x:Inp) (hx:aBl x):aW Tryz.prog 101 [.agg (stC s),.agg (bZ x)] [] fun y _=>eZ (B+210) y:=by
 have K:=okS h (by omega)
 have bad:∀ e:Int,∃ y,Wk4 (.tup [.agg (stC s),.agg [.int .i64 e,.aD,.aD,.aD,.int .i64 0]]) y/\eZ (B+210) y:=fun e=>cO (h.mono (by omega)) e 0 (.inl rfl) (.inl rfl) (.inl rfl)
 refine cX (aO aSc (by simp) ?_)
 unfold aP7
 have c24:=kV s (by have:=K.st.n;omega) x.id
 unfold dT at c24
 simp -implicitDefEqProofs(disch:=first|decide|omega)only[↓aA,aC,aB,simprocAttr,bB,aN,bZ]
 refine aE (aI.of (aM:=false) (c24) (.refl rfl) rfl (by simp)) ?_
 have c31:=aHV s (by have:=K.st.n;omega) x.id x.beat
 unfold sH at c31
 cases hf:eH x.id s.nodes with
 | none =>
   have eb:pD s x.id x.beat=(s,2):=by unfold pD;rw [hf]
   rw [eb] at c31
   simp -implicitDefEqProofs(disch:=first|decide|omega)only[↓aA,aC,aB,simprocAttr,bB,aN,bZ,Option.isSome_none,Option.getD_none]
   unfold pC
   simp -implicitDefEqProofs(disch:=first|decide|omega)only[↓aA,aC,aB,simprocAttr,bB]
   refine aE (aI.of (aM:=false) (c31) (.refl rfl) rfl (by simp)) ?_
   simp -implicitDefEqProofs(disch:=first|decide|omega)only[↓aA,aC,aB,simprocAttr,bB,aN,bZ]
   refine aE (aI.of (aM:=false) (dJ s 2) (.refl rfl) rfl (by simp)) ?_
   simp -implicitDefEqProofs(disch:=first|decide|omega)only[↓aA,aC,aB,simprocAttr,bB]
   exact bad 2
 | some n =>
   have hn:=(gG hf).1
   have hid:=(gG hf).2
   have hno:=h.nR n hn
   by_cases hsame:n.up=true/\n.beat=x.beat
   · simp -implicitDefEqProofs(disch:=first|decide|omega)only[↓aA,aC,aB,simprocAttr,bB,aN,bZ,Option.isSome_some,Option.getD_some,hsame.1,hsame.2]
     refine bP (aAn s (by have:=K.st.k;omega) x.id) rfl rfl ?_
     simp -implicitDefEqProofs(disch:=first|decide|omega)only[↓aA,aC,aB,simprocAttr,bB]
     exact cO (h.mono (by omega)) 0 0 (.inl rfl) (.inr ⟨_,rfl⟩) (.inl rfl)
   have rest:∀ t e,pD s x.id x.beat=(t,e)->(e=0->II B t):=fun t e he h0=>by
    unfold pD at he
    rw [hf] at he
    simp only at he
    split at he
    · cases he;cases h0
    split at he
    · cases he;cases h0
    split at he
    · cases he;cases h0
    split at he
    · cases he;cases h0
    cases he
    have hnow:=h.now
    rename_i hu _ _ _
    exact aJ7 h (m:=n) hn rfl ⟨hno.id,hno.label,hno.rack,hno.mem,hno.cores,⟨hnow.1,Int.le_refl _⟩,trivial⟩ (by simpa using hu) rfl rfl rfl
   have stale:∀ t e,pD s x.id x.beat=(t,e)->e≠0->t=s:=fun t e he h0=>by
    unfold pD at he
    rw [hf] at he
    simp only at he
    split at he
    · cases he;rfl
    split at he
    · cases he;rfl
    split at he
    · cases he;rfl
    split at he
    · cases he;rfl
    cases he
    exact absurd rfl h0
   have go:∀ first:Bool,True:=fun _=>trivial
   generalize hbt:pD s x.id x.beat=q at c31 rest stale
   obtain ⟨t,e⟩:=q
   have rest:=rest t e rfl
   have stale:=stale t e rfl
   have part2:aw Tryz.prog pC (oN [.ce 4 41 10 true,.ce 5 94 5 true] fun y _=>∃ z,Wk4 y z/\eZ (B+210) z) ⟨[(2,.ref 0 0 0),(3,.ref 1 0 0),(4,.ref 2 0 0),(5,.ref 3 0 0),(32,.bool false)],[.box (stC s),.box (bZ x),.box [.aD,.aD,.aD,.aD,.aD,.aD,.aD,.int .i64 0,.int .i64 0,.int .i64 0],.box [.int .i64 0,.aD,.aD,.aD,.int .i64 0],.box (cB n)]⟩:=by
    unfold pC
    simp -implicitDefEqProofs(disch:=first|decide|omega)only[↓aA,aC,aB,simprocAttr,bB,bZ]
    refine aE (aI.of (aM:=false) (c31) (.refl rfl) rfl (by simp)) ?_
    by_cases he:e=0
    case neg =>
     have:=stale he
     subst this
     simp -implicitDefEqProofs(disch:=first|decide|omega)only[↓aA,aC,aB,simprocAttr,bB,he]
     refine aE (aI.of (aM:=false) (dJ t e) (.refl rfl) rfl (by simp)) ?_
     simp -implicitDefEqProofs(disch:=first|decide|omega)only[↓aA,aC,aB,simprocAttr,bB]
     exact bad e
    have ht:=rest he
    have K2:=okS ht (by omega)
    simp -implicitDefEqProofs(disch:=first|decide|omega)only[↓aA,aC,aB,simprocAttr,bB,he]
    unfold aEB
    simp -implicitDefEqProofs(disch:=first|decide|omega)only[↓aA,aC,aB,simprocAttr]
    refine aF (σ:=Nat×List Int) (fun p=>⟨[(3,.ref 0 0 0),(4,.ref 1 0 0),(5,.ref 2 0 0),(8,.ref 3 0 0),(10,.own 4 1 0 p.2.length),(11,.int .i64 (p.1:Int))],[.box (bZ x),.box [.aD,.aD,.aD,.aD,.aD,.aD,.aD,.int .i64 0,.int .i64 0,.int .i64 0],.box [.int .i64 0,.aD,.aD,.aD,.int .i64 0],.box (stC t),.arr 1 (p.2.map I64)]⟩) (fun p=>p.1<=x.ids.length/\p.2.length<=p.1) (fun p=>x.ids.length-p.1) (0,[]) ?_ ⟨by simp,by simp⟩ ?_
    · (refine Sub.of0 [some 1,some 2,some 3,some 5,none] rfl ?_ rfl ?_<;>repeat' first|trivial|rfl|exact .inl rfl|exact .inr ⟨rfl,_,_,rfl⟩|(simp;done)|(simp;omega)|refine And.intro ?_ ?_)
    rintro ⟨k,l⟩ ⟨hk,hl⟩
    simp only at hk hl
    have hxi:=hx.ids
    unfold aEA
    by_cases hkl:k<x.ids.length
    · have hg:x.ids.getD k default=x.ids[k]:=by simp [hkl]
      have c92:=kY t (by have:=K2.st.k;omega) x.ids[k]
      unfold dT at c92
      simp -implicitDefEqProofs(disch:=first|decide|omega)only[↓aA,aC,aB,simprocAttr,bB,bZ,hg,I64]
      repeat refine And.intro (by omega) ?_
      refine bP (c92) rfl rfl ?_
      generalize (gR x.ids[k] t.conts).getD cI=c
      cases (gR x.ids[k] t.conts).isSome
      · simp -implicitDefEqProofs(disch:=first|decide|omega)only[↓aA,aC,aB,simprocAttr,bB,aY,bZ]
        refine ⟨(k+1,l),?_,⟨by simp only;omega,by simp only;omega⟩,by simp only;omega⟩
        (refine Sub.of0 [some 0,some 1,some 2,some 3,some 4] rfl ?_ rfl ?_<;>repeat' first|trivial|rfl|exact .inl rfl|exact .inr ⟨rfl,_,_,rfl⟩|(simp;done)|(simp;omega)|refine And.intro ?_ ?_)
      · by_cases hcn:c.node=x.id
        · simp -implicitDefEqProofs(disch:=first|decide|omega)only[↓aA,aC,aB,simprocAttr,bB,aY,bZ,hcn]
          repeat refine And.intro (by omega) ?_
          refine ⟨(k+1,l++[c.id]),?_,⟨by simp only;omega,by simp;omega⟩,by simp only;omega⟩
          simp only [List.map_append,List.map_cons,List.map_nil,List.length_append,List.length_cons,List.length_nil]
          (refine Sub.of0 [some 0,some 1,some 2,some 3,some 7] rfl ?_ rfl ?_<;>repeat' first|trivial|rfl|exact .inl rfl|exact .inr ⟨rfl,_,_,rfl⟩|(simp;done)|(simp;omega)|refine And.intro ?_ ?_)
        · simp -implicitDefEqProofs(disch:=first|decide|omega)only[↓aA,aC,aB,simprocAttr,bB,aY,bZ,hcn]
          refine ⟨(k+1,l),?_,⟨by simp only;omega,by simp only;omega⟩,by simp only;omega⟩
          (refine Sub.of0 [some 0,some 1,some 2,some 3,some 4] rfl ?_ rfl ?_<;>repeat' first|trivial|rfl|exact .inl rfl|exact .inr ⟨rfl,_,_,rfl⟩|(simp;done)|(simp;omega)|refine And.intro ?_ ?_)
    · simp -implicitDefEqProofs(disch:=first|decide|omega)only[↓aA,aC,aB,simprocAttr,bB,bZ]
      have hlB:l.length<=201:=by omega
      have c52:=rO true t l (by omega) (rN ht l (by omega))
      refine aE (aI.of (aM:=true) c52 (.cons (Vw.refl rfl) (.cons (Vw.sU rfl) .nil)) rfl (fun _=>rfl)) ?_
      have h2:=(jN l ht).mono (B':=B+201) (by omega)
      simp -implicitDefEqProofs(disch:=first|decide|omega)only[↓aA,aC,aB,simprocAttr,bB,bZ]
      refine aH (aGk (fG t l) h2 (by omega) x.id) rfl (fun y hy=>aF5 hy) ?_
      rintro _ ⟨u,cs,rfl,hu⟩
      simp -implicitDefEqProofs(disch:=first|decide|omega)only[↓aA,aC,aB,simprocAttr,bB,bZ]
      have K3:=okS hu (by omega)
      refine bP (aAn u (by have:=K3.st.k;omega) x.id) rfl rfl ?_
      simp -implicitDefEqProofs(disch:=first|decide|omega)only[↓aA,aC,aB,simprocAttr,bB]
      exact cO (hu.mono (by omega)) 0 0 (.inl rfl) (.inr ⟨_,rfl⟩) (.inl rfl)
   cases hup:n.up
   · simp -implicitDefEqProofs(disch:=first|decide|omega)only[↓aA,aC,aB,simprocAttr,bB,aN,bZ,Option.isSome_some,Option.getD_some,hup]
     exact part2
   · have hne:¬ n.beat=x.beat:=fun e=>hsame ⟨hup,e⟩
     simp -implicitDefEqProofs(disch:=first|decide|omega)only[↓aA,aC,aB,simprocAttr,bB,aN,bZ,Option.isSome_some,Option.getD_some,hup,hne]
     exact part2
theorem sT:∀ (r cur:List UInt8) (n:Nat),pgo cur n r=true->n+r.count 46<=3
 | [],cur,n,h=>by
   have:=(rK [] cur n h).1
   simpa using this
 | c :: r,cur,n,h=>by
   unfold pgo at h
   split at h
   · rename_i hc
     subst hc
     rw [Bool.and_eq_true] at h
     have:=sT r [] (n+1) h.2
     rw [List.count_cons_self]
     omega
   · rename_i hc
     have:=sT r _ n h
     rw [List.count_cons_of_ne hc]
     exact this
theorem y9 {ls:List (List UInt8)} {qs:List Queue} {i:Nat} (h:l8 ls qs i=0):qQ (qs.getD i default).path=true/\(0<i->(fT (dH (qs.getD i default).path).1 qs).isSome=true):=by
 unfold l8 at h
 split at h
 · cases h
 split at h
 · cases h
 split at h
 · cases h
 rename_i h1 _ h2
 refine ⟨by simpa using h1,fun hi=>?_⟩
 cases hf:(fT (dH (qs.getD i default).path).1 qs).isSome
 · exact absurd ⟨hi,hf⟩ h2
 · rfl
theorem aFR {ls:List (List UInt8)} {qs:List Queue} (h:e95 ls qs=0):0<qs.length/\(qs.getD 0 default).path=nO/\∀ i,i<qs.length->l8 ls qs i=0:=by
 unfold e95 at h
 split at h
 · rename_i h1
   exact absurd h h1
 split at h
 · cases h
 rename_i h2
 split at h
 · rename_i hx
   exact absurd h (Classical.choose_spec hx).2.1
 rename_i hx
 refine ⟨by omega,?_,fun i=>?_⟩
 · cases hp:((qs.getD 0 default).path==nO)
   · exact absurd (.inr hp) h2
   · simpa using hp
 · induction i using Nat.strongRecOn with
   | _ i ih =>
     intro hi
     by_cases h0:l8 ls qs i=0
     · exact h0
     · exact absurd ⟨i,hi,h0,fun j hj=>ih j hj (by omega)⟩ hx
theorem aFL {qs:List Queue} {q:Queue} (h:q∈qs):∃ y∈qs,fT q.path qs=some y:=by
 cases hf:fT q.path qs with
 | none =>
   have:=List.find?_eq_none.1 hf q h
   simp at this
 | some y=>exact ⟨y,(n7 hf).1,rfl⟩
theorem aUz {ls:List (List UInt8)} {qs:List Queue} (h:e95 ls qs=0):QA ls qs:=by
 obtain ⟨h0,hr,hall⟩:=aFR h
 have idx:∀ q∈qs,∃ i,i<qs.length/\qs.getD i default=q:=fun q hq=>by
  obtain ⟨i,hi,rfl⟩:=List.getElem_of_mem hq
  exact ⟨i,hi,by simp [hi]⟩
 have up:∀ n,∀ q∈qs,q.path.length<=n->∀ x∈upL q.path,∃ y∈qs,fT x qs=some y:=by
  intro n
  induction n with
  | zero =>
    intro q hq hl x hx
    have:q.path=[]:=List.length_eq_zero_iff.1 (by omega)
    rw [this,jX] at hx
    cases hx
  | succ n ih =>
    intro q hq hl x hx
    by_cases hs:q.path=[]
    · rw [hs,jX] at hx
      cases hx
    rw [oB hs] at hx
    rcases List.mem_cons.1 hx with rfl|hx
    · exact aFL hq
    obtain ⟨i,hi,hqi⟩:=idx q hq
    by_cases hi0:i=0
    · subst hi0
      rw [hqi] at hr
      rw [hr,show (dH nO).1=[] from rfl,jX] at hx
      cases hx
    · have:=(y9 (hall i hi)).2 (by omega)
      rw [hqi] at this
      obtain ⟨y,hy⟩:=Option.isSome_iff_exists.1 this
      obtain ⟨hy1,hy2⟩:=n7 hy
      have hal:=jH q.path hs
      rw [<- hy2] at hx
      exact ih y hy1 (by rw [hy2];omega) x hx
 refine ⟨fun q hq=>?_,fun q hq x hx=>up _ q hq (Nat.le_refl _) x hx,fun q hq=>?_⟩
 · obtain ⟨i,hi,rfl⟩:=idx q hq
   exact (qD (hall i hi)).2
 · obtain ⟨i,hi,rfl⟩:=idx q hq
   have hp:=(y9 (hall i hi)).1
   have:=sT _ [] 0 hp
   exact ⟨by omega,uY hp⟩
def R58:{c:CC // aJ Tryz.prog 58=c}:=⟨_,by conv=>lhs;reduce⟩
def S58:{c:CC // bA Tryz.prog 58 { ty:=[(true,229)],fs:=false } R58.1 [([1,0],(.f [0,3,4,1,5,6,2002,7,8])),([1,1,1,1,0,1,0,1,0,1],(.f [0,1,3,5,8,12,2,6,9,13,2004,2007,2010,11,2014,15,16,17,18,19])),([1,1,1,1,0,1,0,1,1,1,0,1,0,1,0,0,1,0,0,1,0],(.f [0,2,7,1,3,4,5,6,8,2009,10,11,12,13])),([1,1,1,1,0,1,0,1,1,1,1,1,0,1],(.f [0,3,4,6,7,11,14,17,1,5,12,15,18,19,2002,2008,9,1010,2013,2016,2020,21,22,23])),([1,1,1,1,0,1,0,1,1,1,1,1,1,1,1,1,1,1,1,1,0,1,0],(.f [0,1,3,5,7,11,14,2,6,8,12,13,15,2004,2009,10,2016,17,18,19]))]=c}:=⟨_,by conv=>lhs;reduce⟩
def aIX:CC:=(fun (c:CC) (_:(S58.1.aV [1,1,1,1,0,1,0,1,1,1,0,1,1,1,0,0])=c)=>c) _ (by conv=>lhs;reduce)
def aIZ:CC:=(fun (c:CC->CC) (_:(fun a0=>(S58.1.aV [1,1,1,1,0,1,0,1,1,1,0,1,1,1]).aU [0,0] a0)=c)=>c) _ (by conv=>lhs;reduce) aIX
def aIW:CC:=(fun (c:CC) (_:(S58.1.aV [1,1,1,1,0,1,0,1,1,1,0,1,0,1,0,0])=c)=>c) _ (by conv=>lhs;reduce)
def aIY:CC:=(fun (c:CC->CC) (_:(fun a0=>(S58.1.aV [1,1,1,1,0,1,0,1,1,1,0,1,0,1]).aU [0,0] a0)=c)=>c) _ (by conv=>lhs;reduce) aIW
def aXi:CC:=(fun (c:CC->CC->CC) (_:(fun a0 a1=>((S58.1).aU [1,1,1,1,0,1,0,1,1,1,0,1,0,1] a0).aU [1,1,1,1,0,1,0,1,1,1,0,1,1,1] a1)=c)=>c) _ (by conv=>lhs;reduce) aIY aIZ
theorem aRw:aX Tryz.prog 58 aXi [.ce 4 102 35 true] 230:=aX.mk (by kernel_rfl) ⟨Tryz.f58,_,Tryz.func58,rfl,by kernel_rfl,by kernel_rfl,by kernel_rfl,by kernel_rfl,by kernel_rfl⟩ ⟨by kernel_rfl,trivial⟩
def a1A:{c:CC // aJ Tryz.prog 114=c}:=⟨_,by conv=>lhs;reduce⟩
def aNZ:{c:CC // bA Tryz.prog 114 { ty:=[(true,116)],fz:=[(true,79,[79])],fs:=false } a1A.1 [([1,1,1,0],(.p [0,2,4,1,3,5,6] (.f [2007,8,1009,10,11]) (.f [10,2007,8,9,11]))),([1,1,1,1,0],(.p [0,2,5,1,10,6] (.f [3,4,2007,8,9,11,12,13]) (.p [2007,8] (.f [3,4,9,11,12,13]) (.f [11,3,4,9,12,13])))),([1,1,1,1,1,0,1,0,0],(.f [0,3,5,6,10,13,1,4,7,8,11,14,17,2002,2009,2012,2015,16,18])),([1,1,1,1,1,0,1,0,1,1,0,1,0],(.f [0,3,1,4,2002,6,2005,7,8,9])),([1,1,1,1,1,1,0,1,0,0,1,0,0,0],(.f [0,2,6,1,3,4,5,7,8,9,10,12,11,13,14,15,16]))]=c}:=⟨_,by conv=>lhs;reduce⟩
def wP:CC:=(fun (c:CC) (_:(aNZ.1.aV [1,1,1,1,1,1,0,1,0,0])=c)=>c) _ (by conv=>lhs;reduce)
def wQ:CC:=(fun (c:CC->CC) (_:(fun a0=>(aNZ.1.aV [1,1,1,1,1,1,0,1]).aU [0,0] a0)=c)=>c) _ (by conv=>lhs;reduce) wP
def rV:CC:=(fun (c:CC->CC) (_:(fun a0=>(aNZ.1.aV [1,1,1,1,1,1]).aU [0,1] a0)=c)=>c) _ (by conv=>lhs;reduce) wQ
def aOj:CC:=(fun (c:CC->CC) (_:(fun a0=>(aNZ.1).aU [1,1,1,1,1,1] a0)=c)=>c) _ (by conv=>lhs;reduce) rV
theorem aMM:aX Tryz.prog 114 aOj [.ce 4 102 35 true] 117:=aX.mk (by kernel_rfl) ⟨Tryz.f114,_,Tryz.func114,rfl,by kernel_rfl,by kernel_rfl,by kernel_rfl,by kernel_rfl,by kernel_rfl⟩ ⟨by kernel_rfl,trivial⟩
def a03:{c:CC // aJ Tryz.prog 176=c}:=⟨_,by conv=>lhs;reduce⟩
def aTR:{c:CC // bA Tryz.prog 176 { ty:=[(true,59)],fs:=false } a03.1 []=c}:=⟨_,by conv=>lhs;reduce⟩
def aBW:CC:=(fun (c:CC) (_:(aTR.1.aV [1,1,1,1,0,1,0,0])=c)=>c) _ (by conv=>lhs;reduce)
def aBX:CC:=(fun (c:CC->CC) (_:(fun a0=>(aTR.1.aV [1,1,1,1,0,1]).aU [0,0] a0)=c)=>c) _ (by conv=>lhs;reduce) aBW
def aOh:CC:=(fun (c:CC->CC) (_:(fun a0=>(aTR.1).aU [1,1,1,1,0,1] a0)=c)=>c) _ (by conv=>lhs;reduce) aBX
theorem aMK:aX Tryz.prog 176 aOh [.ce 4 72 3 true,.tm 5] 61:=aX.mk (by kernel_rfl) ⟨Tryz.f176,_,Tryz.func176,rfl,by kernel_rfl,by kernel_rfl,by kernel_rfl,by kernel_rfl,by kernel_rfl⟩ ⟨by kernel_rfl,trivial⟩
def a1k:{c:CC // aJ Tryz.prog 147=c}:=⟨_,by conv=>lhs;reduce⟩
def aKy:{c:CC // bA Tryz.prog 147 { ty:=[(true,134)] } a1k.1 [([1,1,1,1,1,0,1,0,0,1,0,0,1,1,1,1,1,1,1,1,1,1],(.p [0,4,6,1] (.p [2] (.f [3,5,7,8,9,10]) (.f [5,7,3,8,9,10])) (.f [5,7,2,3,8,9,10])))]=c}:=⟨_,by conv=>lhs;reduce⟩
def aBZ:CC:=(fun (c:CC) (_:(aKy.1.aV [1,1,1,1,1,0,1,0,0,1,0,0,1,1,1,1,1,1,1,0,0,0])=c)=>c) _ (by conv=>lhs;reduce)
def aB1:CC:=(fun (c:CC->CC) (_:(fun a0=>(aKy.1.aV [1,1,1,1,1,0,1,0,0,1,0,0,1,1,1,1,1,1,1,0]).aU [0,0] a0)=c)=>c) _ (by conv=>lhs;reduce) aBZ
def aBY:CC:=(fun (c:CC->CC) (_:(fun a0=>(aKy.1.aV [1,1,1,1,1,0,1,0,0]).aU [1,0,0,1,1,1,1,1,1,1,0] a0)=c)=>c) _ (by conv=>lhs;reduce) aB1
def aB0:CC:=(fun (c:CC->CC) (_:(fun a0=>(aKy.1.aV [1,1,1,1,1,0,1]).aU [0,0] a0)=c)=>c) _ (by conv=>lhs;reduce) aBY
def aOi:CC:=(fun (c:CC->CC) (_:(fun a0=>(aKy.1).aU [1,1,1,1,1,0,1] a0)=c)=>c) _ (by conv=>lhs;reduce) aB0
theorem aML:aX Tryz.prog 147 aOi [.ce 2 34 2 true,.tm 3] 135:=aX.mk (by kernel_rfl) ⟨Tryz.f147,_,Tryz.func147,rfl,by kernel_rfl,by kernel_rfl,by kernel_rfl,by kernel_rfl,by kernel_rfl⟩ ⟨by kernel_rfl,trivial⟩
end Go.Proofs.YtakemdamegfcfaaGreat
