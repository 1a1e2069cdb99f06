/- A part of a proof: what functions of the program compute. No condition. -/
import Derived.Test.YtakemdamegfcfaaGreatProg
import Derived.KernelRfl
import Derived.Test.YtakemdamegfcfaaGreatT6
import Derived.Test.YtakemdamegfcfaaGreatT13
set_option linter.unusedSimpArgs false
set_option linter.unusedVariables false
set_option maxHeartbeats 16000000
set_option maxRecDepth 100000
namespace Go.Proofs.YtakemdamegfcfaaGreat
open Go Go.Ab
def R37:{c:CC // aJ Tryz.prog 37=c}:=⟨_,by conv=>lhs;reduce⟩
def S37:{c:CC // bA Tryz.prog 37 {} R37.1 [([1,1,1,1,1,1,1,1,1,0],(.f [1,3,5,7,9,13,0,2,4,6,8,10,11,14,2012,15,2016,17,18]))]=c}:=⟨_,by conv=>lhs;reduce⟩
def aJH:CC:=(fun (c:CC) (_:(S37.1.aV [1,1,1,1,1,0,1,0,0])=c)=>c) _ (by conv=>lhs;reduce)
def aJI:CC:=(fun (c:CC->CC) (_:(fun a0=>(S37.1.aV [1,1,1,1,1,0,1]).aU [0,0] a0)=c)=>c) _ (by conv=>lhs;reduce) aJH
def aXH:CC:=(fun (c:CC->CC) (_:(fun a0=>(S37.1).aU [1,1,1,1,1,0,1] a0)=c)=>c) _ (by conv=>lhs;reduce) aJI
theorem aVr:aX Tryz.prog 37 aXH [.ce 4 41 10 true,.tm 5] 110:=aX.mk (by kernel_rfl) ⟨Tryz.f37,_,Tryz.func37,rfl,by kernel_rfl,by kernel_rfl,by kernel_rfl,by kernel_rfl,by kernel_rfl⟩ ⟨by kernel_rfl,trivial⟩
def R40:{c:CC // aJ Tryz.prog 40=c}:=⟨_,by conv=>lhs;reduce⟩
def S40:{c:CC // bA Tryz.prog 40 {} R40.1 []=c}:=⟨_,by conv=>lhs;reduce⟩
def aJF:CC:=(fun (c:CC) (_:(S40.1.aV [1,0,1,0,0])=c)=>c) _ (by conv=>lhs;reduce)
def aJG:CC:=(fun (c:CC->CC) (_:(fun a0=>(S40.1.aV [1,0,1]).aU [0,0] a0)=c)=>c) _ (by conv=>lhs;reduce) aJF
def aXG:CC:=(fun (c:CC->CC) (_:(fun a0=>(S40.1).aU [1,0,1] a0)=c)=>c) _ (by conv=>lhs;reduce) aJG
theorem aVq:aX Tryz.prog 40 aXG [.ce 4 64 14 true,.tm 5] 28:=aX.mk (by kernel_rfl) ⟨Tryz.f40,_,Tryz.func40,rfl,by kernel_rfl,by kernel_rfl,by kernel_rfl,by kernel_rfl,by kernel_rfl⟩ ⟨by kernel_rfl,trivial⟩
def R42:{c:CC // aJ Tryz.prog 42=c}:=⟨_,by conv=>lhs;reduce⟩
def S42:{c:CC // bA Tryz.prog 42 {} R42.1 []=c}:=⟨_,by conv=>lhs;reduce⟩
def aXF:CC:=(fun (c:CC) (_:(S42.1)=c)=>c) _ (by conv=>lhs;reduce)
theorem aYX:aZ Tryz.prog 42 aXF [2] 11:=aZ.mk (by kernel_rfl) ⟨Tryz.f42,_,Tryz.func42,rfl,by kernel_rfl,by kernel_rfl,by kernel_rfl,by kernel_rfl,by kernel_rfl⟩
def R44:{c:CC // aJ Tryz.prog 44=c}:=⟨_,by conv=>lhs;reduce⟩
def S44:{c:CC // bA Tryz.prog 44 {} R44.1 []=c}:=⟨_,by conv=>lhs;reduce⟩
def aJD:CC:=(fun (c:CC) (_:(S44.1.aV [1,1,0,0,0])=c)=>c) _ (by conv=>lhs;reduce)
def aJE:CC:=(fun (c:CC->CC) (_:(fun a0=>(S44.1.aV [1,1,0]).aU [0,0] a0)=c)=>c) _ (by conv=>lhs;reduce) aJD
def aXE:CC:=(fun (c:CC->CC) (_:(fun a0=>(S44.1).aU [1,1,0] a0)=c)=>c) _ (by conv=>lhs;reduce) aJE
theorem aVp:aX Tryz.prog 44 aXE [.ce 4 41 10 true] 61:=aX.mk (by kernel_rfl) ⟨Tryz.f44,_,Tryz.func44,rfl,by kernel_rfl,by kernel_rfl,by kernel_rfl,by kernel_rfl,by kernel_rfl⟩ ⟨by kernel_rfl,trivial⟩
def R47:{c:CC // aJ Tryz.prog 47=c}:=⟨_,by conv=>lhs;reduce⟩
def S47:{c:CC // bA Tryz.prog 47 {} R47.1 []=c}:=⟨_,by conv=>lhs;reduce⟩
def aJB:CC:=(fun (c:CC) (_:(S47.1.aV [1,1,0,1,0,0])=c)=>c) _ (by conv=>lhs;reduce)
def aJC:CC:=(fun (c:CC->CC) (_:(fun a0=>(S47.1.aV [1,1,0,1]).aU [0,0] a0)=c)=>c) _ (by conv=>lhs;reduce) aJB
def aXD:CC:=(fun (c:CC->CC) (_:(fun a0=>(S47.1).aU [1,1,0,1] a0)=c)=>c) _ (by conv=>lhs;reduce) aJC
theorem aYW:aZ Tryz.prog 47 aXD [2] 41:=aZ.mk (by kernel_rfl) ⟨Tryz.f47,_,Tryz.func47,rfl,by kernel_rfl,by kernel_rfl,by kernel_rfl,by kernel_rfl,by kernel_rfl⟩
def R51:{c:CC // aJ Tryz.prog 51=c}:=⟨_,by conv=>lhs;reduce⟩
def S51:{c:CC // bA Tryz.prog 51 {} R51.1 []=c}:=⟨_,by conv=>lhs;reduce⟩
def aXC:CC:=(fun (c:CC) (_:(S51.1)=c)=>c) _ (by conv=>lhs;reduce)
theorem aVo:aX Tryz.prog 51 aXC [.ce 6 41 10 true,.tm 7] 38:=aX.mk (by kernel_rfl) ⟨Tryz.f51,_,Tryz.func51,rfl,by kernel_rfl,by kernel_rfl,by kernel_rfl,by kernel_rfl,by kernel_rfl⟩ ⟨by kernel_rfl,trivial⟩
def R52:{c:CC // aJ Tryz.prog 52=c}:=⟨_,by conv=>lhs;reduce⟩
def S52:{c:CC // bA Tryz.prog 52 { fz:=[(false,84,[83])] } R52.1 [([1,0,1,0,0,1,0,0,0],(.f [1,2,3,1004,0,9,2005,6,7,8,10,11])),([1,0,1,0,0,1,0,0,1,1,1,0,1,0,1,1,0],(.p [0,2] (.f [1,3,4,5]) (.f [3,1,4,5]))),([1,0,1,0,0,1,0,0,1,1,1,0,1,0,1,1,1,0],(.f [3,0,1,4,2002,2005,6,7,8,9])),([1,0,1,0,0,1,0,0,1,1,1,1,1,1,1,0,1,0],(.p [1,4,2] (.p [0] (.f [3,5,6,7,8,9]) (.p [5] (.f [3,6,7,8,9]) (.f [6,3,7,8,9]))) (.p [5] (.p [0] (.f [3,6,7,8,9]) (.f [6,3,7,8,9])) (.f [6,0,3,7,8,9]))))]=c}:=⟨_,by conv=>lhs;reduce⟩
def aJz:CC:=(fun (c:CC) (_:(S52.1.aV [1,0,1,0,0])=c)=>c) _ (by conv=>lhs;reduce)
def aJA:CC:=(fun (c:CC->CC) (_:(fun a0=>(S52.1.aV [1,0,1]).aU [0,0] a0)=c)=>c) _ (by conv=>lhs;reduce) aJz
def aXB:CC:=(fun (c:CC->CC) (_:(fun a0=>(S52.1).aU [1,0,1] a0)=c)=>c) _ (by conv=>lhs;reduce) aJA
theorem aVn:aX Tryz.prog 52 aXB [.ce 4 41 10 true] 86:=aX.mk (by kernel_rfl) ⟨Tryz.f52,_,Tryz.func52,rfl,by kernel_rfl,by kernel_rfl,by kernel_rfl,by kernel_rfl,by kernel_rfl⟩ ⟨by kernel_rfl,trivial⟩
def R80:{c:CC // aJ Tryz.prog 80=c}:=⟨_,by conv=>lhs;reduce⟩
def S80:{c:CC // bA Tryz.prog 80 {} R80.1 []=c}:=⟨_,by conv=>lhs;reduce⟩
def aXq:CC:=(fun (c:CC) (_:(S80.1)=c)=>c) _ (by conv=>lhs;reduce)
theorem aYR:aZ Tryz.prog 80 aXq [2] 9:=aZ.mk (by kernel_rfl) ⟨Tryz.f80,_,Tryz.func80,rfl,by kernel_rfl,by kernel_rfl,by kernel_rfl,by kernel_rfl,by kernel_rfl⟩
def R81:{c:CC // aJ Tryz.prog 81=c}:=⟨_,by conv=>lhs;reduce⟩
def S81:{c:CC // bA Tryz.prog 81 {} R81.1 []=c}:=⟨_,by conv=>lhs;reduce⟩
def aJe:CC:=(fun (c:CC) (_:(S81.1.aV [1,1,1,0,1,0,0])=c)=>c) _ (by conv=>lhs;reduce)
def aJf:CC:=(fun (c:CC->CC) (_:(fun a0=>(S81.1.aV [1,1,1,0,1]).aU [0,0] a0)=c)=>c) _ (by conv=>lhs;reduce) aJe
def aXp:CC:=(fun (c:CC->CC) (_:(fun a0=>(S81.1).aU [1,1,1,0,1] a0)=c)=>c) _ (by conv=>lhs;reduce) aJf
theorem aVg:aX Tryz.prog 81 aXp [.ce 2 41 10 true] 35:=aX.mk (by kernel_rfl) ⟨Tryz.f81,_,Tryz.func81,rfl,by kernel_rfl,by kernel_rfl,by kernel_rfl,by kernel_rfl,by kernel_rfl⟩ ⟨by kernel_rfl,trivial⟩
def R82:{c:CC // aJ Tryz.prog 82=c}:=⟨_,by conv=>lhs;reduce⟩
def S82:{c:CC // bA Tryz.prog 82 {} R82.1 []=c}:=⟨_,by conv=>lhs;reduce⟩
def aXo:CC:=(fun (c:CC) (_:(S82.1)=c)=>c) _ (by conv=>lhs;reduce)
theorem aYQ:aZ Tryz.prog 82 aXo [2] 7:=aZ.mk (by kernel_rfl) ⟨Tryz.f82,_,Tryz.func82,rfl,by kernel_rfl,by kernel_rfl,by kernel_rfl,by kernel_rfl,by kernel_rfl⟩
def R91:{c:CC // aJ Tryz.prog 91=c}:=⟨_,by conv=>lhs;reduce⟩
def S91:{c:CC // bA Tryz.prog 91 {} R91.1 []=c}:=⟨_,by conv=>lhs;reduce⟩
def aJb:CC:=(fun (c:CC) (_:(S91.1.aV [1,1,1,1,1,0,1,0,0])=c)=>c) _ (by conv=>lhs;reduce)
def aJd:CC:=(fun (c:CC->CC) (_:(fun a0=>(S91.1.aV [1,1,1,1,1,0,1]).aU [0,0] a0)=c)=>c) _ (by conv=>lhs;reduce) aJb
def aJa:CC:=(fun (c:CC) (_:(S91.1.aV [1,1,1,1,0,1,0,0])=c)=>c) _ (by conv=>lhs;reduce)
def aJc:CC:=(fun (c:CC->CC) (_:(fun a0=>(S91.1.aV [1,1,1,1,0,1]).aU [0,0] a0)=c)=>c) _ (by conv=>lhs;reduce) aJa
def aXn:CC:=(fun (c:CC->CC->CC) (_:(fun a0 a1=>((S91.1).aU [1,1,1,1,0,1] a0).aU [1,1,1,1,1,0,1] a1)=c)=>c) _ (by conv=>lhs;reduce) aJc aJd
theorem aVf:aX Tryz.prog 91 aXn [.ce 4 41 10 true,.tm 5] 72:=aX.mk (by kernel_rfl) ⟨Tryz.f91,_,Tryz.func91,rfl,by kernel_rfl,by kernel_rfl,by kernel_rfl,by kernel_rfl,by kernel_rfl⟩ ⟨by kernel_rfl,trivial⟩
def R92:{c:CC // aJ Tryz.prog 92=c}:=⟨_,by conv=>lhs;reduce⟩
def S92:{c:CC // bA Tryz.prog 92 {} R92.1 []=c}:=⟨_,by conv=>lhs;reduce⟩
def aI8:CC:=(fun (c:CC) (_:(S92.1.aV [1,0,1,0,0])=c)=>c) _ (by conv=>lhs;reduce)
def aI9:CC:=(fun (c:CC->CC) (_:(fun a0=>(S92.1.aV [1,0,1]).aU [0,0] a0)=c)=>c) _ (by conv=>lhs;reduce) aI8
def aXm:CC:=(fun (c:CC->CC) (_:(fun a0=>(S92.1).aU [1,0,1] a0)=c)=>c) _ (by conv=>lhs;reduce) aI9
theorem aVe:aX Tryz.prog 92 aXm [.ce 4 82 9 true,.tm 5] 28:=aX.mk (by kernel_rfl) ⟨Tryz.f92,_,Tryz.func92,rfl,by kernel_rfl,by kernel_rfl,by kernel_rfl,by kernel_rfl,by kernel_rfl⟩ ⟨by kernel_rfl,trivial⟩
def R93:{c:CC // aJ Tryz.prog 93=c}:=⟨_,by conv=>lhs;reduce⟩
def S93:{c:CC // bA Tryz.prog 93 {} R93.1 []=c}:=⟨_,by conv=>lhs;reduce⟩
def aI6:CC:=(fun (c:CC) (_:(S93.1.aV [1,1,0,1,0,0])=c)=>c) _ (by conv=>lhs;reduce)
def aI7:CC:=(fun (c:CC->CC) (_:(fun a0=>(S93.1.aV [1,1,0,1]).aU [0,0] a0)=c)=>c) _ (by conv=>lhs;reduce) aI6
def aXl:CC:=(fun (c:CC->CC) (_:(fun a0=>(S93.1).aU [1,1,0,1] a0)=c)=>c) _ (by conv=>lhs;reduce) aI7
theorem aVd:aX Tryz.prog 93 aXl [.ce 4 41 10 true] 33:=aX.mk (by kernel_rfl) ⟨Tryz.f93,_,Tryz.func93,rfl,by kernel_rfl,by kernel_rfl,by kernel_rfl,by kernel_rfl,by kernel_rfl⟩ ⟨by kernel_rfl,trivial⟩
def R94:{c:CC // aJ Tryz.prog 94=c}:=⟨_,by conv=>lhs;reduce⟩
def S94:{c:CC // bA Tryz.prog 94 {} R94.1 []=c}:=⟨_,by conv=>lhs;reduce⟩
def aI4:CC:=(fun (c:CC) (_:(S94.1.aV [1,1,0,1,0,0])=c)=>c) _ (by conv=>lhs;reduce)
def aI5:CC:=(fun (c:CC->CC) (_:(fun a0=>(S94.1.aV [1,1,0,1]).aU [0,0] a0)=c)=>c) _ (by conv=>lhs;reduce) aI4
def aXk:CC:=(fun (c:CC->CC) (_:(fun a0=>(S94.1).aU [1,1,0,1] a0)=c)=>c) _ (by conv=>lhs;reduce) aI5
theorem aYP:aZ Tryz.prog 94 aXk [4,5] 33:=aZ.mk (by kernel_rfl) ⟨Tryz.f94,_,Tryz.func94,rfl,by kernel_rfl,by kernel_rfl,by kernel_rfl,by kernel_rfl,by kernel_rfl⟩
def cI:bD:=⟨0,0,0,0,0,0,0,false,0⟩
theorem gV (s:Sta) (hl:s.apps.length<2^62) (id:Int):aT Tryz.prog 40 [.agg (stC s),.int .i64 id] (dT APP gI (dP id s.apps)):=by
 refine aT.wk3 (aO aVq (by simp) ?_)
 unfold aXG dT dP
 simp -implicitDefEqProofs(disch:=first|decide|omega)only[↓aA,aC,aB,simprocAttr,stC]
 unfold aJG
 simp -implicitDefEqProofs(disch:=first|decide|omega)only[↓aA,aC,aB,simprocAttr]
 refine aF (σ:=Nat) (fun k=>⟨[(1,.int .i64 id),(2,.ref 0 0 0),(4,.ref 1 0 0),(6,.int .i64 (k:Int))],[.box (stC s),.box [.int .i64 0,.int .i64 0,.str [],.int .i64 0,.int .i64 0,.int .i64 0,.int .i64 0,.aD,.int .i64 0,.int .i64 0,.aD,.aD,.aD,.aD]]⟩) (fun k=>k<=s.apps.length/\s.apps.find? (fun a=>a.id==id)=(s.apps.drop k).find? (fun a=>a.id==id)) (fun k=>s.apps.length-k) 0 (.inl rfl) ⟨by omega,by simp⟩ ?_
 rintro k ⟨hk,hf⟩
 unfold aJF
 by_cases hki:k<s.apps.length
 · have hg:s.apps.getD k default=s.apps[k]:=by simp [hki]
   rw [List.drop_eq_getElem_cons hki,List.find?_cons] at hf
   by_cases hp:s.apps[k].id=id
   · rw [beq_iff_eq.2 hp] at hf
     simp -implicitDefEqProofs(disch:=first|decide|omega)only[↓aA,aC,aB,simprocAttr,bB,a9,hg,hf,hp]
     exact ⟨by omega,by omega,by omega,by omega,.inl (.inl (.inl rfl))⟩
   · rw [beq_eq_false_iff_ne.2 hp] at hf
     simp -implicitDefEqProofs(disch:=first|decide|omega)only[↓aA,aC,aB,simprocAttr,bB,a9,hg,hp]
     exact ⟨by omega,by omega,k+1,.inl rfl,⟨by omega,hf⟩,by omega⟩
 · have:k=s.apps.length:=by omega
   subst this
   rw [List.drop_length] at hf
   simp -implicitDefEqProofs(disch:=first|decide|omega)only[↓aA,aC,aB,simprocAttr,bB,a9,hf]
   repeat refine And.intro (by rfl) ?_
   exact .inr ⟨_,_,rfl,rfl,.inr ⟨_,_,rfl,rfl,by simp [WkL,Wk1,bU,bI,gI]⟩,.inl (.inl rfl),trivial⟩
theorem kY (s:Sta) (hl:s.conts.length<2^62) (id:Int):aT Tryz.prog 92 [.agg (stC s),.int .i64 id] (dT bY cI (gR id s.conts)):=by
 unfold aT
 refine aO aVe (by simp) ?_
 unfold aXm dT gR
 simp -implicitDefEqProofs(disch:=first|decide|omega)only[↓aA,aC,aB,simprocAttr,stC]
 unfold aI9
 simp -implicitDefEqProofs(disch:=first|decide|omega)only[↓aA,aC,aB,simprocAttr]
 refine aF (σ:=Nat) (fun k=>⟨[(1,.int .i64 id),(2,.ref 0 0 0),(4,.ref 1 0 0),(6,.int .i64 (k:Int))],[.box (stC s),.box (cE cI)]⟩) (fun k=>k<=s.conts.length/\s.conts.find? (fun a=>a.id==id)=(s.conts.drop k).find? (fun a=>a.id==id)) (fun k=>s.conts.length-k) 0 (.inl rfl) ⟨by omega,by simp⟩ ?_
 rintro k ⟨hk,hf⟩
 unfold aI8
 by_cases hki:k<s.conts.length
 · have hg:s.conts.getD k default=s.conts[k]:=by simp [hki]
   rw [List.drop_eq_getElem_cons hki,List.find?_cons] at hf
   by_cases hp:s.conts[k].id=id
   · rw [beq_iff_eq.2 hp] at hf
     simp -implicitDefEqProofs(disch:=first|decide|omega)only[↓aA,aC,aB,simprocAttr,bB,aY,hg,hf,hp]
     exact ⟨by omega,by omega,by omega,by omega,rfl⟩
   · rw [beq_eq_false_iff_ne.2 hp] at hf
     simp -implicitDefEqProofs(disch:=first|decide|omega)only[↓aA,aC,aB,simprocAttr,bB,aY,hg,hp]
     exact ⟨by omega,by omega,k+1,.inl rfl,⟨by omega,hf⟩,by omega⟩
 · have:k=s.conts.length:=by omega
   subst this
   rw [List.drop_length] at hf
   simp -implicitDefEqProofs(disch:=first|decide|omega)only[↓aA,aC,aB,simprocAttr,bB,aY,hf]
   repeat first|exact rfl|refine And.intro (by rfl) ?_
theorem gB (s:Sta) (hl:s.apps.length<2^38) (n:App):aT Tryz.prog 44 [.agg (stC s),APP n] (.agg (stC (iJ s n))):=by
 unfold aT
 refine aO aVp (by simp) ?_
 unfold aXE
 simp -implicitDefEqProofs(disch:=first|decide|omega)only[↓aA,aC,aB,simprocAttr,stC,aGa]
 unfold aJE
 simp -implicitDefEqProofs(disch:=first|decide|omega)only[↓aA,aC,aB,simprocAttr]
 refine aF (σ:=Nat) (fun k=>⟨[(2,.ref 0 0 0),(3,.ref 1 0 0),(4,.ref 2 0 0),(5,.int .i64 (k:Int))],[.box (stC s),.box (bI n),.box [.aD,.aD,.aD,.aD,.aD,.aD,.aD,.int .i64 0,.int .i64 0,.int .i64 0]]⟩) (fun k=>k<=s.apps.length/\∀ j,(hj:j<k)->(h:j<s.apps.length)->s.apps[j].id<n.id) (fun k=>s.apps.length-k) 0 (.inl rfl) ⟨by omega,fun j hj=>by omega⟩ ?_
 rintro k ⟨hk,hf⟩
 unfold aJD
 by_cases hki:k<s.apps.length
 · have hg:s.apps.getD k default=s.apps[k]:=by simp [hki]
   by_cases hp:s.apps[k].id<n.id
   · simp -implicitDefEqProofs(disch:=first|decide|omega)only[↓aA,aC,aB,simprocAttr,bB,aGa,hg,hp]
     exact ⟨by omega,by omega,k+1,.inl rfl,⟨by omega,fun j hj h=>by
      by_cases hjk:j=k
      · subst hjk;exact hp
      · exact hf j (by omega) h⟩,by omega⟩
   · have e:=lI (key:=App.id) (n:=n) hk (fun j hj=>hf j hj (by omega)) (fun _=>hp)
     rw [dif_pos hki] at e
     by_cases hq:s.apps[k].id=n.id
     · rw [if_pos hq] at e
       simp -implicitDefEqProofs(disch:=first|decide|omega)only[↓aA,aC,aB,simprocAttr,bB,aGa,hg,hp,hq]
       unfold iJ
       simp only [e]
       repeat' first|omega|apply And.intro
       simp [List.take_of_length_le,Nat.min_eq_left hk]
       exact List.take_of_length_le (by simp;omega)
     · rw [if_neg hq] at e
       simp -implicitDefEqProofs(disch:=first|decide|omega)only[↓aA,aC,aB,simprocAttr,bB,aGa,hg,hp,hq]
       unfold iJ
       simp only [e]
       repeat' first|omega|apply And.intro
       simp [List.take_of_length_le,Nat.min_eq_left hk]
       exact List.take_of_length_le (by simp;omega)
 · have e:=lI (key:=App.id) (n:=n) hk (fun j hj=>hf j hj (by omega)) (fun h=>absurd h hki)
   rw [dif_neg hki] at e
   have:k=s.apps.length:=by omega
   subst this
   simp -implicitDefEqProofs(disch:=first|decide|omega)only[↓aA,aC,aB,simprocAttr,bB,aGa]
   unfold iJ
   simp only [e]
   repeat' first|omega|apply And.intro
   simp [List.take_of_length_le,Nat.min_eq_left hk]
theorem fX (a:App):aT Tryz.prog 42 [APP a] (.bool (live a)):=by
 unfold aT
 refine aK aYX (by simp) ?_
 unfold aXF live
 by_cases h:a.state=1
 · simp -implicitDefEqProofs(disch:=first|decide|omega)only[↓aA,aC,aB,simprocAttr,bB,a9,h]
   rfl
 · by_cases h2:a.state=2
   · simp -implicitDefEqProofs(disch:=first|decide|omega)only[↓aA,aC,aB,simprocAttr,bB,a9,h,h2]
     rfl
   · simp -implicitDefEqProofs(disch:=first|decide|omega)only[↓aA,aC,aB,simprocAttr,bB,a9,h,h2]
     rfl
theorem aEL (s:Sta) (hl:s.conts.length<2^38) (id:Int):aT Tryz.prog 93 [.agg (stC s),.int .i64 id] (.agg (stC (mR s id))):=by
 unfold aT
 refine aO aVd (by simp) ?_
 unfold aXl
 simp -implicitDefEqProofs(disch:=first|decide|omega)only[↓aA,aC,aB,simprocAttr,stC]
 unfold aI7
 simp -implicitDefEqProofs(disch:=first|decide|omega)only[↓aA,aC,aB,simprocAttr]
 refine aF (σ:=Nat) (fun k=>⟨[(1,.int .i64 id),(2,.ref 0 0 0),(4,.ref 1 0 0),(5,.own 2 9 0 ((s.conts.take k).filter fun c=>c.id !=id).length),(6,.int .i64 (k:Int))],[.box (stC s),.box [.aD,.aD,.aD,.aD,.aD,.aD,.aD,.int .i64 0,.int .i64 0,.int .i64 0],.arr 9 (((s.conts.take k).filter fun c=>c.id !=id).map bY)]⟩) (fun k=>k<=s.conts.length) (fun k=>s.conts.length-k) 0 ?_ (by omega) ?_
 · (refine Sub.of0 [some 0,some 1,none] rfl ?_ rfl ?_<;>repeat' first|trivial|rfl|exact .inl rfl|exact .inr ⟨rfl,_,_,rfl⟩|(simp;done)|(simp;omega)|refine And.intro ?_ ?_)
 rintro k hk
 unfold aI6
 have hfl:=dA (p:=fun c:bD=>c.id !=id) (l:=s.conts) (k:=k)
 by_cases hki:k<s.conts.length
 · have hg:s.conts.getD k default=s.conts[k]:=by simp [hki]
   have e:=cH (p:=fun c:bD=>c.id !=id) hki
   by_cases hp:s.conts[k].id=id
   · rw [if_neg (by simp [hp]),List.append_nil] at e
     simp -implicitDefEqProofs(disch:=first|decide|omega)only[↓aA,aC,aB,simprocAttr,bB,aY,hg,hp]
     repeat refine And.intro (by omega) ?_
     refine ⟨k+1,?_,by omega,by omega⟩
     rw [e]
     exact .inl rfl
   · rw [if_pos (by simp [hp])] at e
     generalize hout:(s.conts.take k).filter (fun c:bD=>c.id !=id)=out at e hfl ⊢
     simp -implicitDefEqProofs(disch:=first|decide|omega)only[↓aA,aC,aB,simprocAttr,bB,aY,hg,hp]
     repeat refine And.intro (by omega) ?_
     refine ⟨k+1,?_,by omega,by omega⟩
     simp only [e,List.map_append,List.map_cons,List.map_nil,List.length_append,List.length_cons,List.length_nil]
     (refine Sub.of0 [some 0,some 1,some 4] rfl ?_ rfl ?_<;>repeat' first|trivial|rfl|exact .inl rfl|exact .inr ⟨rfl,_,_,rfl⟩|(simp;done)|(simp;omega)|refine And.intro ?_ ?_)
 · have:k=s.conts.length:=by omega
   subst this
   simp -implicitDefEqProofs(disch:=first|decide|omega)only[↓aA,aC,aB,simprocAttr,bB,List.take_length]
   rfl
end Go.Proofs.YtakemdamegfcfaaGreat
