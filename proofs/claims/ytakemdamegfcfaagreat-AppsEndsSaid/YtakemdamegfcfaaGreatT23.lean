/- A part of a proof: what functions of the program compute. No condition. -/
import Derived.Test.YtakemdamegfcfaaGreatT16
import Derived.Test.YtakemdamegfcfaaGreatT17
import Derived.Test.YtakemdamegfcfaaGreatProg
import Derived.KernelRfl
import Derived.Test.YtakemdamegfcfaaGreatT6
import Derived.Test.YtakemdamegfcfaaGreatT10
set_option linter.unusedSimpArgs false
set_option linter.unusedVariables false
set_option maxHeartbeats 16000000
set_option maxRecDepth 100000
namespace Go.Proofs.YtakemdamegfcfaaGreat
open Go Go.Ab
theorem sT:∀ (r cur:List UInt8) (n:Nat),pgo cur n r=true->n+r.count 46<=3
 | [],cur,n,h=>by
   have:=(rK [] cur n h).1
   simpa using this
 | c :: r,cur,n,h=>by
   unfold pgo at h
   split at h
   · rename_i hc
     subst hc
     rw [Bool.and_eq_true] at h
     have:=sT r [] (n+1) h.2
     rw [List.count_cons_self]
     omega
   · rename_i hc
     have:=sT r _ n h
     rw [List.count_cons_of_ne hc]
     exact this
theorem y9 {ls:List (List UInt8)} {qs:List Queue} {i:Nat} (h:l8 ls qs i=0):qQ (qs.getD i default).path=true/\(0<i->(fT (dH (qs.getD i default).path).1 qs).isSome=true):=by
 unfold l8 at h
 split at h
 · cases h
 split at h
 · cases h
 split at h
 · cases h
 rename_i h1 _ h2
 refine ⟨by simpa using h1,fun hi=>?_⟩
 cases hf:(fT (dH (qs.getD i default).path).1 qs).isSome
 · exact absurd ⟨hi,hf⟩ h2
 · rfl
theorem aFR {ls:List (List UInt8)} {qs:List Queue} (h:e95 ls qs=0):0<qs.length/\(qs.getD 0 default).path=nO/\∀ i,i<qs.length->l8 ls qs i=0:=by
 unfold e95 at h
 split at h
 · rename_i h1
   exact absurd h h1
 split at h
 · cases h
 rename_i h2
 split at h
 · rename_i hx
   exact absurd h (Classical.choose_spec hx).2.1
 rename_i hx
 refine ⟨by omega,?_,fun i=>?_⟩
 · cases hp:((qs.getD 0 default).path==nO)
   · exact absurd (.inr hp) h2
   · simpa using hp
 · induction i using Nat.strongRecOn with
   | _ i ih =>
     intro hi
     by_cases h0:l8 ls qs i=0
     · exact h0
     · exact absurd ⟨i,hi,h0,fun j hj=>ih j hj (by omega)⟩ hx
theorem aFL {qs:List Queue} {q:Queue} (h:q∈qs):∃ y∈qs,fT q.path qs=some y:=by
 cases hf:fT q.path qs with
 | none =>
   have:=List.find?_eq_none.1 hf q h
   simp at this
 | some y=>exact ⟨y,(n7 hf).1,rfl⟩
theorem aUz {ls:List (List UInt8)} {qs:List Queue} (h:e95 ls qs=0):QA ls qs:=by
 obtain ⟨h0,hr,hall⟩:=aFR h
 have idx:∀ q∈qs,∃ i,i<qs.length/\qs.getD i default=q:=fun q hq=>by
  obtain ⟨i,hi,rfl⟩:=List.getElem_of_mem hq
  exact ⟨i,hi,by simp [hi]⟩
 have up:∀ n,∀ q∈qs,q.path.length<=n->∀ x∈upL q.path,∃ y∈qs,fT x qs=some y:=by
  intro n
  induction n with
  | zero =>
    intro q hq hl x hx
    have:q.path=[]:=List.length_eq_zero_iff.1 (by omega)
    rw [this,jX] at hx
    cases hx
  | succ n ih =>
    intro q hq hl x hx
    by_cases hs:q.path=[]
    · rw [hs,jX] at hx
      cases hx
    rw [oB hs] at hx
    rcases List.mem_cons.1 hx with rfl|hx
    · exact aFL hq
    obtain ⟨i,hi,hqi⟩:=idx q hq
    by_cases hi0:i=0
    · subst hi0
      rw [hqi] at hr
      rw [hr,show (dH nO).1=[] from rfl,jX] at hx
      cases hx
    · have:=(y9 (hall i hi)).2 (by omega)
      rw [hqi] at this
      obtain ⟨y,hy⟩:=Option.isSome_iff_exists.1 this
      obtain ⟨hy1,hy2⟩:=n7 hy
      have hal:=jH q.path hs
      rw [<- hy2] at hx
      exact ih y hy1 (by rw [hy2];omega) x hx
 refine ⟨fun q hq=>?_,fun q hq x hx=>up _ q hq (Nat.le_refl _) x hx,fun q hq=>?_⟩
 · obtain ⟨i,hi,rfl⟩:=idx q hq
   exact (qD (hall i hi)).2
 · obtain ⟨i,hi,rfl⟩:=idx q hq
   have hp:=(y9 (hall i hi)).1
   have:=sT _ [] 0 hp
   exact ⟨by omega,uY hp⟩
def R58:{c:CC // aJ Tryz.prog 58=c}:=⟨_,by conv=>lhs;reduce⟩
def S58:{c:CC // bA Tryz.prog 58 { ty:=[(true,229)],fs:=false } R58.1 [([1,0],(.f [0,3,4,1,5,6,2002,7,8])),([1,1,1,1,0,1,0,1,0,1],(.f [0,1,3,5,8,12,2,6,9,13,2004,2007,2010,11,2014,15,16,17,18,19])),([1,1,1,1,0,1,0,1,1,1,0,1,0,1,0,0,1,0,0,1,0],(.f [0,2,7,1,3,4,5,6,8,2009,10,11,12,13])),([1,1,1,1,0,1,0,1,1,1,1,1,0,1],(.f [0,3,4,6,7,11,14,17,1,5,12,15,18,19,2002,2008,9,1010,2013,2016,2020,21,22,23])),([1,1,1,1,0,1,0,1,1,1,1,1,1,1,1,1,1,1,1,1,0,1,0],(.f [0,1,3,5,7,11,14,2,6,8,12,13,15,2004,2009,10,2016,17,18,19]))]=c}:=⟨_,by conv=>lhs;reduce⟩
def aIX:CC:=(fun (c:CC) (_:(S58.1.aV [1,1,1,1,0,1,0,1,1,1,0,1,1,1,0,0])=c)=>c) _ (by conv=>lhs;reduce)
def aIZ:CC:=(fun (c:CC->CC) (_:(fun a0=>(S58.1.aV [1,1,1,1,0,1,0,1,1,1,0,1,1,1]).aU [0,0] a0)=c)=>c) _ (by conv=>lhs;reduce) aIX
def aIW:CC:=(fun (c:CC) (_:(S58.1.aV [1,1,1,1,0,1,0,1,1,1,0,1,0,1,0,0])=c)=>c) _ (by conv=>lhs;reduce)
def aIY:CC:=(fun (c:CC->CC) (_:(fun a0=>(S58.1.aV [1,1,1,1,0,1,0,1,1,1,0,1,0,1]).aU [0,0] a0)=c)=>c) _ (by conv=>lhs;reduce) aIW
def aXi:CC:=(fun (c:CC->CC->CC) (_:(fun a0 a1=>((S58.1).aU [1,1,1,1,0,1,0,1,1,1,0,1,0,1] a0).aU [1,1,1,1,0,1,0,1,1,1,0,1,1,1] a1)=c)=>c) _ (by conv=>lhs;reduce) aIY aIZ
theorem aRw:aX Tryz.prog 58 aXi [.ce 4 102 35 true] 230:=aX.of Tryz.f58 Tryz.func58 rfl ⟨by kernel_rfl,trivial⟩
def a1A:{c:CC // aJ Tryz.prog 114=c}:=⟨_,by conv=>lhs;reduce⟩
def aNZ:{c:CC // bA Tryz.prog 114 { ty:=[(true,116)],fz:=[(true,79,[79])],fs:=false } a1A.1 [([1,1,1,0],(.p [0,2,4,1,3,5,6] (.f [2007,8,1009,10,11]) (.f [10,2007,8,9,11]))),([1,1,1,1,0],(.p [0,2,5,1,10,6] (.f [3,4,2007,8,9,11,12,13]) (.p [2007,8] (.f [3,4,9,11,12,13]) (.f [11,3,4,9,12,13])))),([1,1,1,1,1,0,1,0,0],(.f [0,3,5,6,10,13,1,4,7,8,11,14,17,2002,2009,2012,2015,16,18])),([1,1,1,1,1,0,1,0,1,1,0,1,0],(.f [0,3,1,4,2002,6,2005,7,8,9])),([1,1,1,1,1,1,0,1,0,0,1,0,0,0],(.f [0,2,6,1,3,4,5,7,8,9,10,12,11,13,14,15,16]))]=c}:=⟨_,by conv=>lhs;reduce⟩
def wP:CC:=(fun (c:CC) (_:(aNZ.1.aV [1,1,1,1,1,1,0,1,0,0])=c)=>c) _ (by conv=>lhs;reduce)
def wQ:CC:=(fun (c:CC->CC) (_:(fun a0=>(aNZ.1.aV [1,1,1,1,1,1,0,1]).aU [0,0] a0)=c)=>c) _ (by conv=>lhs;reduce) wP
def rV:CC:=(fun (c:CC->CC) (_:(fun a0=>(aNZ.1.aV [1,1,1,1,1,1]).aU [0,1] a0)=c)=>c) _ (by conv=>lhs;reduce) wQ
def aOj:CC:=(fun (c:CC->CC) (_:(fun a0=>(aNZ.1).aU [1,1,1,1,1,1] a0)=c)=>c) _ (by conv=>lhs;reduce) rV
theorem aMM:aX Tryz.prog 114 aOj [.ce 4 102 35 true] 117:=aX.of Tryz.f114 Tryz.func114 rfl ⟨by kernel_rfl,trivial⟩
def a03:{c:CC // aJ Tryz.prog 176=c}:=⟨_,by conv=>lhs;reduce⟩
def aTR:{c:CC // bA Tryz.prog 176 { ty:=[(true,59)],fs:=false } a03.1 []=c}:=⟨_,by conv=>lhs;reduce⟩
def aBW:CC:=(fun (c:CC) (_:(aTR.1.aV [1,1,1,1,0,1,0,0])=c)=>c) _ (by conv=>lhs;reduce)
def aBX:CC:=(fun (c:CC->CC) (_:(fun a0=>(aTR.1.aV [1,1,1,1,0,1]).aU [0,0] a0)=c)=>c) _ (by conv=>lhs;reduce) aBW
def aOh:CC:=(fun (c:CC->CC) (_:(fun a0=>(aTR.1).aU [1,1,1,1,0,1] a0)=c)=>c) _ (by conv=>lhs;reduce) aBX
theorem aMK:aX Tryz.prog 176 aOh [.ce 4 72 3 true,.tm 5] 61:=aX.of Tryz.f176 Tryz.func176 rfl ⟨by kernel_rfl,trivial⟩
def a1k:{c:CC // aJ Tryz.prog 147=c}:=⟨_,by conv=>lhs;reduce⟩
def aKy:{c:CC // bA Tryz.prog 147 { ty:=[(true,134)] } a1k.1 [([1,1,1,1,1,0,1,0,0,1,0,0,1,1,1,1,1,1,1,1,1,1],(.p [0,4,6,1] (.p [2] (.f [3,5,7,8,9,10]) (.f [5,7,3,8,9,10])) (.f [5,7,2,3,8,9,10])))]=c}:=⟨_,by conv=>lhs;reduce⟩
def aBZ:CC:=(fun (c:CC) (_:(aKy.1.aV [1,1,1,1,1,0,1,0,0,1,0,0,1,1,1,1,1,1,1,0,0,0])=c)=>c) _ (by conv=>lhs;reduce)
def aB1:CC:=(fun (c:CC->CC) (_:(fun a0=>(aKy.1.aV [1,1,1,1,1,0,1,0,0,1,0,0,1,1,1,1,1,1,1,0]).aU [0,0] a0)=c)=>c) _ (by conv=>lhs;reduce) aBZ
def aBY:CC:=(fun (c:CC->CC) (_:(fun a0=>(aKy.1.aV [1,1,1,1,1,0,1,0,0]).aU [1,0,0,1,1,1,1,1,1,1,0] a0)=c)=>c) _ (by conv=>lhs;reduce) aB1
def aB0:CC:=(fun (c:CC->CC) (_:(fun a0=>(aKy.1.aV [1,1,1,1,1,0,1]).aU [0,0] a0)=c)=>c) _ (by conv=>lhs;reduce) aBY
def aOi:CC:=(fun (c:CC->CC) (_:(fun a0=>(aKy.1).aU [1,1,1,1,1,0,1] a0)=c)=>c) _ (by conv=>lhs;reduce) aB0
theorem aML:aX Tryz.prog 147 aOi [.ce 2 34 2 true,.tm 3] 135:=aX.of Tryz.f147 Tryz.func147 rfl ⟨by kernel_rfl,trivial⟩
end Go.Proofs.YtakemdamegfcfaaGreat
