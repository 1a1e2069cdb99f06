/- A part of a proof: what functions of the program compute. No condition. -/
import Derived.Test.YtakemdamegfcfaaGreatT6
import Derived.Test.YtakemdamegfcfaaGreatProg
import Derived.KernelRfl
import Derived.Test.YtakemdamegfcfaaGreatT10
set_option linter.unusedSimpArgs false
set_option linter.unusedVariables false
set_option maxHeartbeats 16000000
set_option maxRecDepth 100000
namespace Go.Proofs.YtakemdamegfcfaaGreat
open Go Go.Ab
def uK {α:Type} (p:α->Bool) (l:List α):Int:=if l.any p then (l.findIdx p:Nat) else -1
theorem aSq {α:Type} {p:α->Bool} {l:List α} {i:Nat} (hi:i<l.length) (hn:∀ j,(h:j<i)->p (l[j]'(by omega))=false) (hp:p (l[i]'hi)=true):uK p l=(i:Int):=by
 unfold uK
 have:l.any p=true:=List.any_eq_true.2 ⟨_,List.getElem_mem hi,hp⟩
 rw [if_pos this]
 congr 1
 exact (List.findIdx_eq hi).2 ⟨hp,fun j hj=>hn j hj⟩
theorem aSp {α:Type} {p:α->Bool} {l:List α} (hn:∀ j,(h:j<l.length)->p l[j]=false):uK p l= -1:=by
 unfold uK
 have:l.any p=false:=by
  rw [List.any_eq_false]
  intro x hx
  obtain ⟨j,hj,rfl⟩:=List.getElem_of_mem hx
  rw [hn j hj]
  simp
 rw [this]
 rfl
theorem yU {α:Type} (p:α->Bool) (l:List α):(uK p l= -1/\l.find? p=none)∨∃ i:Nat,∃ h:i<l.length,uK p l=(i:Int)/\p l[i]=true/\l.find? p=some l[i]/\∀ j,(hj:j<i)->p (l[j]'(by omega))=false:=by
 unfold uK
 cases h:l.any p
 · rw [List.any_eq_false] at h
   exact .inl ⟨rfl,List.find?_eq_none.2 h⟩
 · have hi:l.findIdx p<l.length:=by
    rw [List.findIdx_lt_length]
    obtain ⟨x,hx,hp⟩:=List.any_eq_true.1 h
    exact ⟨x,hx,hp⟩
   have hn:∀ j,(hj:j<l.findIdx p)->p (l[j]'(by omega))=false:=fun j hj=>by
    have:=List.not_of_lt_findIdx hj
    simpa using this
   have hp:p l[l.findIdx p]=true:=List.findIdx_getElem (w:=hi)
   refine .inr ⟨l.findIdx p,hi,rfl,hp,?_,hn⟩
   exact List.find?_eq_some_iff_getElem.2 ⟨hp,l.findIdx p,hi,rfl,fun j hj=>by rw [hn j hj];rfl⟩
theorem a1X {α:Type} (p:α->Bool) (l:List α):(uK p l= -1/\∀ x∈l,p x=false)∨∃ i:Nat,∃ h:i<l.length,uK p l=(i:Int)/\p l[i]=true/\∀ j,(hj:j<i)->p (l[j]'(by omega))=false:=by
 unfold uK
 cases h:l.any p
 · rw [List.any_eq_false] at h
   exact .inl ⟨rfl,fun x hx=>by simpa using h x hx⟩
 · have hi:l.findIdx p<l.length:=by
    rw [List.findIdx_lt_length]
    obtain ⟨x,hx,hp⟩:=List.any_eq_true.1 h
    exact ⟨x,hx,hp⟩
   refine .inr ⟨l.findIdx p,hi,rfl,List.findIdx_getElem (w:=hi),fun j hj=>?_⟩
   have:=List.not_of_lt_findIdx hj
   simpa using this
theorem _root_.Go.Ab.aW.len {P:Program} {f:FuncId} {args:List AV} {H:List AO} {Post:AV->List AO->Prop} (h:aW P f args H Post):aW P f args H fun y G=>Post y G/\H.length<=G.length :=
 ⟨h.1,fun E vs hm hl hv=>(h.2 E vs hm hl hv).mono fun e w' ⟨v,y,H',E',h1,h2,h3,h4,h5,h6⟩=>⟨v,y,H',E',h1,h2,h3,h4,h5,h6,h5.num⟩⟩
def R27:{c:CC // aJ Tryz.prog 27=c}:=⟨_,by conv=>lhs;reduce⟩
def S27:{c:CC // bA Tryz.prog 27 {} R27.1 []=c}:=⟨_,by conv=>lhs;reduce⟩
def a3B:CC:=(fun (c:CC) (_:(S27.1.aV [1,1,0,1,0,0])=c)=>c) _ (by conv=>lhs;reduce)
def a3C:CC:=(fun (c:CC->CC) (_:(fun a0=>(S27.1.aV [1,1,0,1]).aU [0,0] a0)=c)=>c) _ (by conv=>lhs;reduce) a3B
def a5s:CC:=(fun (c:CC->CC) (_:(fun a0=>(S27.1).aU [1,1,0,1] a0)=c)=>c) _ (by conv=>lhs;reduce) a3C
theorem a5G:aZ Tryz.prog 27 a5s [4] 26:=aZ.of Tryz.f27 Tryz.func27 rfl
def R28:{c:CC // aJ Tryz.prog 28=c}:=⟨_,by conv=>lhs;reduce⟩
def S28:{c:CC // bA Tryz.prog 28 {} R28.1 []=c}:=⟨_,by conv=>lhs;reduce⟩
def a3z:CC:=(fun (c:CC) (_:(S28.1.aV [1,1,0,1,0,0])=c)=>c) _ (by conv=>lhs;reduce)
def a3A:CC:=(fun (c:CC->CC) (_:(fun a0=>(S28.1.aV [1,1,0,1]).aU [0,0] a0)=c)=>c) _ (by conv=>lhs;reduce) a3z
def a5r:CC:=(fun (c:CC->CC) (_:(fun a0=>(S28.1).aU [1,1,0,1] a0)=c)=>c) _ (by conv=>lhs;reduce) a3A
theorem a5F:aZ Tryz.prog 28 a5r [2] 30:=aZ.of Tryz.f28 Tryz.func28 rfl
end Go.Proofs.YtakemdamegfcfaaGreat
