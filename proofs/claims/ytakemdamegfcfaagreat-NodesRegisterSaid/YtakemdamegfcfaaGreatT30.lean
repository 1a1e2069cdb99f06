/- A part of a proof: what functions of the program compute. No condition. -/
import Derived.Test.YtakemdamegfcfaaGreatProg
import Derived.KernelRfl
import Derived.Test.YtakemdamegfcfaaGreatT6
import Derived.Test.YtakemdamegfcfaaGreatT29
set_option linter.unusedSimpArgs false
set_option linter.unusedVariables false
set_option maxHeartbeats 16000000
set_option maxRecDepth 100000
namespace Go.Proofs.YtakemdamegfcfaaGreat
open Go Go.Ab
def a1b:{c:CC // aJ Tryz.prog 156=c}:=⟨_,by conv=>lhs;reduce⟩
def aKx:{c:CC // bA Tryz.prog 156 {} a1b.1 [([1,1,0,1,0,0,1,0,0,1,1,1,0,0,1,0,0],(.f [1,2,3,5,1004,0,6,7,8,9])),([1,1,1,0],(.f [0,1,2,2003,4,5]))]=c}:=⟨_,by conv=>lhs;reduce⟩
def aDO:CC:=(fun (c:CC) (_:(aKx.1.aV [1,1,0,1,0,0,1,0,0,1,1,1,0,0])=c)=>c) _ (by conv=>lhs;reduce)
def aDQ:CC:=(fun (c:CC->CC) (_:(fun a0=>(aKx.1.aV [1,1,0,1,0,0,1,0,0,1,1,1]).aU [0,0] a0)=c)=>c) _ (by conv=>lhs;reduce) aDO
def aDN:CC:=(fun (c:CC->CC) (_:(fun a0=>(aKx.1.aV [1,1,0,1,0,0]).aU [1,0,0,1,1,1] a0)=c)=>c) _ (by conv=>lhs;reduce) aDQ
def aDP:CC:=(fun (c:CC->CC) (_:(fun a0=>(aKx.1.aV [1,1,0,1]).aU [0,0] a0)=c)=>c) _ (by conv=>lhs;reduce) aDN
def aPx:CC:=(fun (c:CC->CC) (_:(fun a0=>(aKx.1).aU [1,1,0,1] a0)=c)=>c) _ (by conv=>lhs;reduce) aDP
theorem aRZ:aX Tryz.prog 156 aPx [.ce 2 41 10 true,.tm 3] 42:=aX.mk (by kernel_rfl) ⟨Tryz.f156,_,Tryz.func156,rfl,by kernel_rfl,by kernel_rfl,by kernel_rfl,by kernel_rfl,by kernel_rfl⟩ ⟨by kernel_rfl,trivial⟩
def a1a:{c:CC // aJ Tryz.prog 157=c}:=⟨_,by conv=>lhs;reduce⟩
def aTY:{c:CC // bA Tryz.prog 157 {} a1a.1 [([1,1,0,1,0,0,1,0,0,0],(.f [1,3,0,2,4,5,6,11,2007,8,9,10,12,13]))]=c}:=⟨_,by conv=>lhs;reduce⟩
def aDL:CC:=(fun (c:CC) (_:(aTY.1.aV [1,1,0,1,0,0])=c)=>c) _ (by conv=>lhs;reduce)
def aDM:CC:=(fun (c:CC->CC) (_:(fun a0=>(aTY.1.aV [1,1,0,1]).aU [0,0] a0)=c)=>c) _ (by conv=>lhs;reduce) aDL
def aPw:CC:=(fun (c:CC->CC) (_:(fun a0=>(aTY.1).aU [1,1,0,1] a0)=c)=>c) _ (by conv=>lhs;reduce) aDM
theorem aWn:aZ Tryz.prog 157 aPw [4] 39:=aZ.mk (by kernel_rfl) ⟨Tryz.f157,_,Tryz.func157,rfl,by kernel_rfl,by kernel_rfl,by kernel_rfl,by kernel_rfl,by kernel_rfl⟩
def a0Z:{c:CC // aJ Tryz.prog 180=c}:=⟨_,by conv=>lhs;reduce⟩
def aKw:{c:CC // bA Tryz.prog 180 {} a0Z.1 [([1,1,1,0,1,0,0,1,0,0,0],(.f [1,2,3,4,0,5,10,2006,7,8,9,11,12])),([1,1,1,0,1,0,0,1,0,0,1,1,0],(.f [4,12,0,1,2,7,8,11,13,14,2003,2005,6,2009,10,2015,2016,17]))]=c}:=⟨_,by conv=>lhs;reduce⟩
def aDs:CC:=(fun (c:CC) (_:(aKw.1.aV [1,1,1,0,1,0,0])=c)=>c) _ (by conv=>lhs;reduce)
def aDu:CC:=(fun (c:CC->CC) (_:(fun a0=>(aKw.1.aV [1,1,1,0,1]).aU [0,0] a0)=c)=>c) _ (by conv=>lhs;reduce) aDs
def aDr:CC:=(fun (c:CC) (_:(aKw.1.aV [1,1,0,1,0,0])=c)=>c) _ (by conv=>lhs;reduce)
def aDt:CC:=(fun (c:CC->CC) (_:(fun a0=>(aKw.1.aV [1,1,0,1]).aU [0,0] a0)=c)=>c) _ (by conv=>lhs;reduce) aDr
def aPl:CC:=(fun (c:CC->CC->CC) (_:(fun a0 a1=>((aKw.1).aU [1,1,0,1] a0).aU [1,1,1,0,1] a1)=c)=>c) _ (by conv=>lhs;reduce) aDt aDu
theorem aRW:aX Tryz.prog 180 aPl [.ce 4 41 10 true] 91:=aX.mk (by kernel_rfl) ⟨Tryz.f180,_,Tryz.func180,rfl,by kernel_rfl,by kernel_rfl,by kernel_rfl,by kernel_rfl,by kernel_rfl⟩ ⟨by kernel_rfl,trivial⟩
def a0Y:{c:CC // aJ Tryz.prog 181=c}:=⟨_,by conv=>lhs;reduce⟩
def aBh:{c:CC // bA Tryz.prog 181 {} a0Y.1 [([1,1,0],(.f [1,5,0,4,2002,3,2006,7,8,9,10,11])),([1,1,1,0,1,0,0,1,0,0],(.f [0,2,3,4,5,7,1,6,8,9,10])),([1,1,1,1,1,0,0,0,1,0,1,0,1,0,0,1,0,0,1,0],(.p [1,2,5,6,7,8,12,13,14,0,11] (.p [2003,4] (.f [9,10,15,16,17]) (.f [15,9,10,16,17])) (.f [9,2003,4,10,15,16,17])))]=c}:=⟨_,by conv=>lhs;reduce⟩
def aDn:CC:=(fun (c:CC) (_:(aBh.1.aV [1,1,1,1,1,0,0,0,1,0,1,0,1,0,0])=c)=>c) _ (by conv=>lhs;reduce)
def aDq:CC:=(fun (c:CC->CC) (_:(fun a0=>(aBh.1.aV [1,1,1,1,1,0,0,0,1,0,1,0,1]).aU [0,0] a0)=c)=>c) _ (by conv=>lhs;reduce) aDn
def aDm:CC:=(fun (c:CC->CC) (_:(fun a0=>(aBh.1.aV [1,1,1,1,1,0,0,0]).aU [1,0,1,0,1] a0)=c)=>c) _ (by conv=>lhs;reduce) aDq
def aDp:CC:=(fun (c:CC->CC) (_:(fun a0=>(aBh.1.aV [1,1,1,1,1,0]).aU [0,0] a0)=c)=>c) _ (by conv=>lhs;reduce) aDm
def aDl:CC:=(fun (c:CC) (_:(aBh.1.aV [1,1,1,0,1,0,0])=c)=>c) _ (by conv=>lhs;reduce)
def aDo:CC:=(fun (c:CC->CC) (_:(fun a0=>(aBh.1.aV [1,1,1,0,1]).aU [0,0] a0)=c)=>c) _ (by conv=>lhs;reduce) aDl
def aPk:CC:=(fun (c:CC->CC->CC) (_:(fun a0 a1=>((aBh.1).aU [1,1,1,0,1] a0).aU [1,1,1,1,1,0] a1)=c)=>c) _ (by conv=>lhs;reduce) aDo aDp
theorem aWe:aZ Tryz.prog 181 aPk [4] 106:=aZ.mk (by kernel_rfl) ⟨Tryz.f181,_,Tryz.func181,rfl,by kernel_rfl,by kernel_rfl,by kernel_rfl,by kernel_rfl,by kernel_rfl⟩
def a0X:{c:CC // aJ Tryz.prog 182=c}:=⟨_,by conv=>lhs;reduce⟩
def aTP:{c:CC // bA Tryz.prog 182 {} a0X.1 []=c}:=⟨_,by conv=>lhs;reduce⟩
def aDj:CC:=(fun (c:CC) (_:(aTP.1.aV [1,1,0,1,0,0])=c)=>c) _ (by conv=>lhs;reduce)
def aDk:CC:=(fun (c:CC->CC) (_:(fun a0=>(aTP.1.aV [1,1,0,1]).aU [0,0] a0)=c)=>c) _ (by conv=>lhs;reduce) aDj
def aPj:CC:=(fun (c:CC->CC) (_:(fun a0=>(aTP.1).aU [1,1,0,1] a0)=c)=>c) _ (by conv=>lhs;reduce) aDk
theorem aRV:aX Tryz.prog 182 aPj [.ce 6 41 10 true] 34:=aX.mk (by kernel_rfl) ⟨Tryz.f182,_,Tryz.func182,rfl,by kernel_rfl,by kernel_rfl,by kernel_rfl,by kernel_rfl,by kernel_rfl⟩ ⟨by kernel_rfl,trivial⟩
def a0H:{c:CC // aJ Tryz.prog 204=c}:=⟨_,by conv=>lhs;reduce⟩
def aTG:{c:CC // bA Tryz.prog 204 {} a0H.1 []=c}:=⟨_,by conv=>lhs;reduce⟩
def aCP:CC:=(fun (c:CC) (_:(aTG.1.aV [1,1,0,1,0,0])=c)=>c) _ (by conv=>lhs;reduce)
def aCQ:CC:=(fun (c:CC->CC) (_:(fun a0=>(aTG.1.aV [1,1,0,1]).aU [0,0] a0)=c)=>c) _ (by conv=>lhs;reduce) aCP
def aO3:CC:=(fun (c:CC->CC) (_:(fun a0=>(aTG.1).aU [1,1,0,1] a0)=c)=>c) _ (by conv=>lhs;reduce) aCQ
theorem aRP:aX Tryz.prog 204 aO3 [.ce 8 82 9 true,.tm 9] 77:=aX.mk (by kernel_rfl) ⟨Tryz.f204,_,Tryz.func204,rfl,by kernel_rfl,by kernel_rfl,by kernel_rfl,by kernel_rfl,by kernel_rfl⟩ ⟨by kernel_rfl,trivial⟩
def a0r:{c:CC // aJ Tryz.prog 224=c}:=⟨_,by conv=>lhs;reduce⟩
def aTA:{c:CC // bA Tryz.prog 224 {} a0r.1 []=c}:=⟨_,by conv=>lhs;reduce⟩
def aCx:CC:=(fun (c:CC) (_:(aTA.1.aV [1,0,1,0,0])=c)=>c) _ (by conv=>lhs;reduce)
def aCy:CC:=(fun (c:CC->CC) (_:(fun a0=>(aTA.1.aV [1,0,1]).aU [0,0] a0)=c)=>c) _ (by conv=>lhs;reduce) aCx
def aOO:CC:=(fun (c:CC->CC) (_:(fun a0=>(aTA.1).aU [1,0,1] a0)=c)=>c) _ (by conv=>lhs;reduce) aCy
theorem aVW:aZ Tryz.prog 224 aOO [4] 18:=aZ.mk (by kernel_rfl) ⟨Tryz.f224,_,Tryz.func224,rfl,by kernel_rfl,by kernel_rfl,by kernel_rfl,by kernel_rfl,by kernel_rfl⟩
section upto
variable {α:Type} {f:α->α} {l:List α} {k:Nat}
theorem aGr (h:k<l.length):((l.take k).map f++l.drop k).set k (f l[k])=(l.take (k+1)).map f++l.drop (k+1):=by
 have h1:((l.take k).map f).length=k:=by simp;omega
 rw [List.drop_eq_getElem_cons h,List.set_append,if_neg (by omega),h1,Nat.sub_self,List.set_cons_zero]
 rw [List.take_succ_eq_append_getElem h,List.map_append,List.append_assoc]
 rfl
theorem aGt [Inhabited α] (h:k<l.length):((l.take k).map f++l.drop k).getD k default=l[k]:=by
 have h1:((l.take k).map f).length=k:=by simp;omega
 rw [List.getD_eq_getElem?_getD,List.getElem?_append_right (by omega),h1,Nat.sub_self]
 simp [h]
theorem aGs:((l.take k).map f++l.drop k).length=l.length:=by
 simp
 omega
end upto
theorem xA (s:Sta) (hl:s.conts.length<2^37) (id t:Int):aT Tryz.prog 182 [.agg (stC s),.int .i64 id,.int .i64 t] (.agg (stC (x6 s id t))):=by
 unfold aT
 refine aO aRV (by simp) ?_
 unfold aPj
 simp -implicitDefEqProofs(disch:=first|decide|omega)only[↓aA,aC,aB,simprocAttr,bB]
 unfold aDk
 simp -implicitDefEqProofs(disch:=first|decide|omega)only[↓aA,aC,aB,simprocAttr]
 repeat refine And.intro (by omega) ?_
 refine aF (σ:=Nat) (fun k=>⟨[(1,.int .i64 id),(2,.int .i64 t),(3,.ref 0 0 0),(6,.ref 1 0 0),(7,.own 2 9 0 s.conts.length),(8,.int .i64 (k:Int))],[.box (stC s),.box [.aD,.aD,.aD,.aD,.aD,.aD,.aD,.int .i64 0,.int .i64 0,.int .i64 0],.arr 9 (((s.conts.take k).map (dV id t)++s.conts.drop k).map bY)]⟩) (fun k=>k<=s.conts.length) (fun k=>s.conts.length-k) 0 ?_ (by omega) ?_
 · have e:(s.conts.take 0).map (dV id t)++s.conts.drop 0=s.conts:=by simp
   rw [e]
   (refine Sub.of0 [some 0,some 1,some 3] rfl ?_ rfl ?_<;>repeat' first|trivial|rfl|exact .inl rfl|exact .inr ⟨rfl,_,_,rfl⟩|(simp;done)|(simp;omega)|refine And.intro ?_ ?_)
 rintro k hk
 unfold aDj
 by_cases hki:k<s.conts.length
 · have hg:=aGt (f:=dV id t) hki
   have hs:=aGr (f:=dV id t) hki
   have hln:=aGs (f:=dV id t) (l:=s.conts) (k:=k)
   generalize hL:(s.conts.take k).map (dV id t)++s.conts.drop k=L at hg hs hln ⊢
   by_cases hp:s.conts[k].id=id
   · have e:dV id t s.conts[k]={ s.conts[k] with notice:=t }:=if_pos hp
     rw [e] at hs
     simp -implicitDefEqProofs(disch:=first|decide|omega)only[↓aA,aC,aB,simprocAttr,bB,aY,hg]
     repeat refine And.intro (by omega) ?_
     refine ⟨k+1,?_,by omega,by omega⟩
     rw [<- hs]
     exact .inl rfl
   · have e:dV id t s.conts[k]=s.conts[k]:=if_neg hp
     rw [e] at hs
     have hs2:L.set k s.conts[k]=L:=by
      rw [<- hg,List.getD_eq_getElem?_getD,List.getElem?_eq_getElem (by omega)]
      simp
     rw [hs2] at hs
     simp -implicitDefEqProofs(disch:=first|decide|omega)only[↓aA,aC,aB,simprocAttr,bB,aY,hg,hp]
     repeat refine And.intro (by omega) ?_
     refine ⟨k+1,?_,by omega,by omega⟩
     rw [<- hs]
     exact .inl rfl
 · have:k=s.conts.length:=by omega
   subst this
   simp -implicitDefEqProofs(disch:=first|decide|omega)only[↓aA,aC,aB,simprocAttr,bB,List.take_length]
   rw [List.drop_length,List.append_nil,List.take_of_length_le (by simp)]
   rfl
theorem xB (s u:Sta) (hl:s.conts.length<2^37) (hu:u.conts.length<2^37):aW Tryz.prog 157 [.agg (stC s),.agg (stC u)] [] fun y _=>∃ l:List Int,y= .sl false 1 (l.map I64):=by
 refine aK aWn (by simp) ?_
 unfold aPw
 simp -implicitDefEqProofs(disch:=first|decide|omega)only[↓aA,aC,aB,simprocAttr,bB]
 unfold aDM
 simp -implicitDefEqProofs(disch:=first|decide|omega)only[↓aA,aC,aB,simprocAttr]
 refine aF (σ:=Nat×List Int) (fun p=>⟨[(2,.ref 0 0 0),(3,.ref 1 0 0),(5,.own 2 1 0 p.2.length),(6,.int .i64 (p.1:Int))],[.box (stC s),.box (stC u),.arr 1 (p.2.map I64)]⟩) (fun p=>p.1<=s.conts.length/\p.2.length<=p.1) (fun p=>s.conts.length-p.1) (0,[]) ?_ ⟨by simp,by simp⟩ ?_
 · (refine Sub.of0 [some 0,some 1,none] rfl ?_ rfl ?_<;>repeat' first|trivial|rfl|exact .inl rfl|exact .inr ⟨rfl,_,_,rfl⟩|(simp;done)|(simp;omega)|refine And.intro ?_ ?_)
 rintro ⟨k,l⟩ ⟨hk,hl2⟩
 simp only at hk hl2
 unfold aDL
 by_cases hki:k<s.conts.length
 · have hg:s.conts.getD k default=s.conts[k]:=by simp [hki]
   have c92:=kY u (by omega) s.conts[k].id
   unfold dT at c92
   simp -implicitDefEqProofs(disch:=first|decide|omega)only[↓aA,aC,aB,simprocAttr,bB,aY,hg]
   repeat refine And.intro (by omega) ?_
   refine bP (c92) rfl rfl ?_
   cases hf:(gR s.conts[k].id u.conts).isSome
   · simp -implicitDefEqProofs(disch:=first|decide|omega)only[↓aA,aC,aB,simprocAttr,bB,aY,hg]
     repeat refine And.intro (by omega) ?_
     refine ⟨(k+1,l++[s.conts[k].id]),?_,⟨by simp only;omega,by simp;omega⟩,by simp only;omega⟩
     simp only [List.map_append,List.map_cons,List.map_nil,List.length_append,List.length_cons,List.length_nil]
     (refine Sub.of0 [some 0,some 1,some 5] rfl ?_ rfl ?_<;>repeat' first|trivial|rfl|exact .inl rfl|exact .inr ⟨rfl,_,_,rfl⟩|(simp;done)|(simp;omega)|refine And.intro ?_ ?_)
   · simp -implicitDefEqProofs(disch:=first|decide|omega)only[↓aA,aC,aB,simprocAttr,bB,aY,hg]
     repeat refine And.intro (by omega) ?_
     refine ⟨(k+1,l),?_,⟨by simp only;omega,by simp only;omega⟩,by simp only;omega⟩
     (refine Sub.of0 [some 0,some 1,some 2] rfl ?_ rfl ?_<;>repeat' first|trivial|rfl|exact .inl rfl|exact .inr ⟨rfl,_,_,rfl⟩|(simp;done)|(simp;omega)|refine And.intro ?_ ?_)
 · simp -implicitDefEqProofs(disch:=first|decide|omega)only[↓aA,aC,aB,simprocAttr,bB]
   exact ⟨l,rfl⟩
theorem bq1:(true==true)=true:=rfl
theorem bq2:(false==false)=true:=rfl
theorem bq3:(true==false)=false:=rfl
theorem bq4:(false==true)=false:=rfl
theorem zV (t:Bool) (l:List Int) (hl:l.length<2^40) (n:Int):aT Tryz.prog 224 [.sl t 1 (l.map I64),.int .i64 n] (.bool (l.contains n)):=by
 unfold aT
 refine aK aVW (by simp) ?_
 unfold aOO
 simp -implicitDefEqProofs(disch:=first|decide|omega)only[↓aA,aC,aB,simprocAttr]
 unfold aCy
 simp -implicitDefEqProofs(disch:=first|decide|omega)only[↓aA,aC,aB,simprocAttr]
 refine aF (σ:=Nat) (fun k=>⟨[(0,.sl t 1 (l.map I64)),(1,.int .i64 n),(5,.int .i64 (k:Int))],[]⟩) (fun k=>k<=l.length/\l.contains n=(l.drop k).contains n) (fun k=>l.length-k) 0 (.inl rfl) ⟨by omega,by simp⟩ ?_
 rintro k ⟨hk,hf⟩
 unfold aCx
 by_cases hki:k<l.length
 · have hg:l.getD k default=l[k]:=by simp [hki]
   rw [List.drop_eq_getElem_cons hki,List.contains_cons] at hf
   by_cases hp:l[k]=n
   · have hf:l.contains n=true:=by rw [hf,hp];simp
     rw [hf]
     simp -implicitDefEqProofs(disch:=first|decide|omega)only[↓aA,aC,aB,simprocAttr,hg,I64]
     all_goals omega
   · rw [show (n==l[k])=false from by simpa using fun e=>hp e.symm,Bool.false_or] at hf
     simp -implicitDefEqProofs(disch:=first|decide|omega)only[↓aA,aC,aB,simprocAttr,hg,I64,hp]
     repeat refine And.intro (by omega) ?_
     exact ⟨k+1,.inl rfl,⟨by omega,hf⟩,by omega⟩
 · have:k=l.length:=by omega
   subst this
   rw [List.drop_length] at hf
   rw [hf]
   simp -implicitDefEqProofs(disch:=first|decide|omega)only[↓aA,aC,aB,simprocAttr]
   rfl
set_option maxHeartbeats 4000000 in
theorem zU (t:Bool) (s:Sta) (K:OKS s) (p:List UInt8) (label:Int) (l:List Int) (hl:l.length<2^40):aW Tryz.prog 204 [.agg (stC s),.str p,.int .i64 label,.sl t 1 (l.map I64)] [] fun y _=>∃ c:bD,∃ b:Bool,y= .tup [bY c,.bool b]/\(b=true->c∈s.conts/\c.id∉l):=by
 have hcl:=K.st.k
 refine aO aRP (by simp) ?_
 unfold aO3
 simp -implicitDefEqProofs(disch:=first|decide|omega)only[↓aA,aC,aB,simprocAttr,bB]
 unfold aCQ
 simp -implicitDefEqProofs(disch:=first|decide|omega)only[↓aA,aC,aB,simprocAttr]
 refine aF (σ:=Nat×bD×Bool) (fun q=>⟨[(1,.str p),(2,.int .i64 label),(3,.sl t 1 (l.map I64)),(4,.ref 0 0 0),(8,.ref 1 0 0),(10,.ref 2 0 0),(11,.bool q.2.2),(12,.int .i64 (q.1:Int))],[.box (stC s),.box [.int .i64 0,.int .i64 0,.int .i64 0,.int .i64 0,.int .i64 0,.int .i64 0,.int .i64 0,.bool false,.int .i64 0],.box (cE q.2.1)]⟩) (fun q=>q.1<=s.conts.length/\(q.2.2=true->q.2.1∈s.conts/\q.2.1.id∉l)) (fun q=>s.conts.length-q.1) (0,cI,false) (.inl rfl) ⟨by simp,by simp⟩ ?_
 rintro ⟨k,best,is⟩ ⟨hk,hb⟩
 simp only at hk hb
 unfold aCP
 by_cases hki:k<s.conts.length
 · have hg:s.conts.getD k default=s.conts[k]:=by simp [hki]
   have hmem:=List.getElem_mem hki
   generalize hc:s.conts[k]=c at hg hmem
   have skip:∀ H:List AO,Sub 0 (⟨[(1,.str p),(2,.int .i64 label),(3,.sl t 1 (l.map I64)),(4,.ref 0 0 0),(8,.ref 1 0 0),(10,.ref 2 0 0),(11,.bool is),(12,.int .i64 ((k:Int)+1))],[.box (stC s),.box (cE cI),.box (cE best),.box (cE c)]⟩) ⟨[(1,.str p),(2,.int .i64 label),(3,.sl t 1 (l.map I64)),(4,.ref 0 0 0),(8,.ref 1 0 0),(10,.ref 2 0 0),(11,.bool is),(12,.int .i64 ((k+1:Nat):Int))],[.box (stC s),.box (cE cI),.box (cE best)]⟩:=fun _=>by
    (refine Sub.of0 [some 0,some 1,some 2] rfl ?_ rfl ?_<;>repeat' first|trivial|rfl|exact .inl rfl|exact .inr ⟨rfl,_,_,rfl⟩|(simp;done)|(simp;omega)|refine And.intro ?_ ?_)
   by_cases h1:c.label=label
   case neg =>
    simp -implicitDefEqProofs(disch:=first|decide|omega)only[↓aA,aC,aB,simprocAttr,bB,aY,hg,h1]
    repeat refine And.intro (by omega) ?_
    refine ⟨(k+1,best,is),?_,⟨by simp only;omega,hb⟩,by simp only;omega⟩
    exact skip []
   simp -implicitDefEqProofs(disch:=first|decide|omega)only[↓aA,aC,aB,simprocAttr,bB,aY,hg]
   repeat refine And.intro (by omega) ?_
   refine aH (aG8 K.st c) rfl (by rintro _ ⟨_,rfl,_⟩;rfl) ?_
   rintro _ ⟨p2,rfl,_⟩
   cases hpp:(p2==p)
   · simp -implicitDefEqProofs(disch:=first|decide|omega)only[↓aA,aC,aB,simprocAttr,bB,aY,hg,hpp,bne]
     refine ⟨(k+1,best,is),?_,⟨by simp only;omega,hb⟩,by simp only;omega⟩
     exact skip []
   by_cases h0:c.notice=0
   case neg =>
    simp -implicitDefEqProofs(disch:=first|decide|omega)only[↓aA,aC,aB,simprocAttr,bB,aY,hg,hpp,bne,h0]
    refine ⟨(k+1,best,is),?_,⟨by simp only;omega,hb⟩,by simp only;omega⟩
    exact skip []
   simp -implicitDefEqProofs(disch:=first|decide|omega)only[↓aA,aC,aB,simprocAttr,bB,aY,hg,hpp,bne]
   refine aE (aI.of (aM:=false) (zV t l hl c.id) (.refl rfl) rfl (by simp)) ?_
   cases hin:l.contains c.id
   case true =>
    simp -implicitDefEqProofs(disch:=first|decide|omega)only[↓aA,aC,aB,simprocAttr,bB,aY]
    refine ⟨(k+1,best,is),?_,⟨by simp only;omega,hb⟩,by simp only;omega⟩
    exact skip []
   have hnin:c.id∉l:=by simpa using hin
   simp -implicitDefEqProofs(disch:=first|decide|omega)only[↓aA,aC,aB,simprocAttr,bB,aY]
   have upd:∀ H:List AO,Sub 0 (⟨[(1,.str p),(2,.int .i64 label),(3,.sl t 1 (l.map I64)),(4,.ref 0 0 0),(8,.ref 1 0 0),(10,.ref 2 0 0),(11,.bool true),(12,.int .i64 ((k:Int)+1))],[.box (stC s),.box (cE cI),.box (cE c),.box (cE c)]⟩) ⟨[(1,.str p),(2,.int .i64 label),(3,.sl t 1 (l.map I64)),(4,.ref 0 0 0),(8,.ref 1 0 0),(10,.ref 2 0 0),(11,.bool true),(12,.int .i64 ((k+1:Nat):Int))],[.box (stC s),.box (cE cI),.box (cE c)]⟩:=fun _=>by
    (refine Sub.of0 [some 0,some 1,some 2] rfl ?_ rfl ?_<;>repeat' first|trivial|rfl|exact .inl rfl|exact .inr ⟨rfl,_,_,rfl⟩|(simp;done)|(simp;omega)|refine And.intro ?_ ?_)
   cases is
   · simp -implicitDefEqProofs(disch:=first|decide|omega)only[↓aA,aC,aB,simprocAttr,bB,aY]
     repeat refine And.intro (by omega) ?_
     exact ⟨(k+1,c,true),upd [],⟨by simp only;omega,fun _=>⟨hmem,hnin⟩⟩,by simp only;omega⟩
   · cases hbm:best.master<;>cases hcm:c.master<;>by_cases hgt:c.id>best.id
     all_goals
      simp -implicitDefEqProofs(disch:=first|decide|omega)only[↓aA,aC,aB,simprocAttr,bB,aY,hbm,hcm,hgt,bq1,bq2,bq3,bq4]
      first
       | exact ⟨(k+1,c,true),upd [],⟨by simp only;omega,fun _=>⟨hmem,hnin⟩⟩,by simp only;omega⟩
       | exact ⟨(k+1,best,true),skip [],⟨by simp only;omega,hb⟩,by simp only;omega⟩
 · simp -implicitDefEqProofs(disch:=first|decide|omega)only[↓aA,aC,aB,simprocAttr,bB,aY]
   exact ⟨best,is,rfl,hb⟩
theorem aUP {s:Sta} (h:ST s) (p:List UInt8) (hp:p.length<=60) (k:Int) (l:List Int) (hl:l.length<2^40):aW Tryz.prog 203 [.agg (stC s),.str p,.int .i64 k,.sl true 1 (l.map I64)] [] fun y _=>qI y:=by
 have k1:=h.k
 have k2:=h.n
 have k3:=h.a
 have k4:=h.p
 refine aK aV4 (by simp) ?_
 unfold aO4
 simp -implicitDefEqProofs(disch:=first|decide|omega)only[↓aA,aC,aB,simprocAttr,bB]
 unfold aCS
 simp -implicitDefEqProofs(disch:=first|decide|omega)only[↓aA,aC,aB,simprocAttr]
 refine aF (σ:=Nat×Int) (fun z=>⟨[(1,.str p),(2,.int .i64 k),(3,.sl true 1 (l.map I64)),(4,.ref 0 0 0),(9,.int .i64 z.2),(10,.int .i64 (z.1:Int))],[.box (stC s)]⟩) (fun z=>z.1<=s.conts.length) (fun z=>s.conts.length-z.1) (0,0) ?_ (by simp) ?_
 · (refine Sub.of0 [some 0] rfl ?_ rfl ?_<;>repeat' first|trivial|rfl|exact .inl rfl|exact .inr ⟨rfl,_,_,rfl⟩|(simp;done)|(simp;omega)|refine And.intro ?_ ?_)
 rintro ⟨i,n⟩ hi
 simp only at hi
 unfold aCR
 by_cases hn:i<s.conts.length
 · simp -implicitDefEqProofs(disch:=first|decide|omega)only[↓aA,aC,aB,simprocAttr,bB,aY]
   repeat' first
    | exact ⟨_,rfl⟩
    | (refine ⟨(i+1,IntKind.i64.wrap (n+(s.conts.getD i default).mem)),?_,by simp only;omega,by simp only;omega⟩;(refine Sub.of0 [some 0] rfl ?_ rfl ?_<;>repeat' first|trivial|rfl|exact .inl rfl|exact .inr ⟨rfl,_,_,rfl⟩|(simp;done)|(simp;omega)|refine And.intro ?_ ?_);done)
    | (refine ⟨(i+1,n),?_,by simp only;omega,by simp only;omega⟩;(refine Sub.of0 [some 0] rfl ?_ rfl ?_<;>repeat' first|trivial|rfl|exact .inl rfl|exact .inr ⟨rfl,_,_,rfl⟩|(simp;done)|(simp;omega)|refine And.intro ?_ ?_);done)
    | with_reducible apply And.intro
    | omega
    | (refine aE (aI.of (aM:=false) (zV true l hl _) (.refl rfl) rfl (by simp)) ?_;simp -implicitDefEqProofs(disch:=first|decide|omega)only[↓aA,aC,aB,simprocAttr,bB,aY])
    | (refine bP (zV true l hl _) rfl rfl ?_;simp -implicitDefEqProofs(disch:=first|decide|omega)only[↓aA,aC,aB,simprocAttr,bB,aY])
    | (refine aH (aG8 h _) rfl (by rintro _ ⟨_,rfl,_⟩;rfl) ?_;rintro _ ⟨pp,rfl,hpp⟩;simp -implicitDefEqProofs(disch:=first|decide|omega)only[↓aA,aC,aB,simprocAttr,bB,aY])
    | (refine a7 (aG8 h _) rfl (by rintro _ ⟨_,rfl,_⟩;rfl) ?_;rintro _ ⟨pp,rfl,hpp⟩;simp -implicitDefEqProofs(disch:=first|decide|omega)only[↓aA,aC,aB,simprocAttr,bB,aY])
    | (refine bC (fun hb=>?_) (fun hb=>?_)<;>simp -implicitDefEqProofs(disch:=first|decide|omega)only[↓aA,aC,aB,simprocAttr,hb,bB,aY])
    | (refine a8 (fun hb=>?_) (fun hb=>?_)<;>simp -implicitDefEqProofs(disch:=first|decide|omega)only[↓aA,aC,aB,simprocAttr,hb,bB,aY])
 · simp -implicitDefEqProofs(disch:=first|decide|omega)only[↓aA,aC,aB,simprocAttr,bB]
   repeat' first
    | exact ⟨_,rfl⟩
    | with_reducible apply And.intro
    | omega
theorem nH {P:Program} {f:FuncId} {args args':List AV} {H:List AO} {K Kp:AV->List AO->Prop} {p:AV->Prop} (h:aW P f args' [] fun y _=>p y) (ha:Vws true H args args') (hp:∀ y,p y->y.low=true/\y.aM=false) (hk:∀ y,p y->K y H):acK P f args H K Kp :=
 (aW.aIa (aM:=true) h ha fun y hy=>⟨(hp y hy).1,fun _=>(hp y hy).2⟩).to fun y G ⟨h1,h2⟩=>by subst h2;exact hk y h1
set_option maxHeartbeats 4000000 in
theorem aGp (s:Sta) (K:OKS s) (label:Int):aW Tryz.prog 181 [.agg (stC s),.int .i64 label] [] fun y _=>∃ l:List Int,y= .sl false 1 (l.map I64)/\l.length<=201:=by
 have hcl:=K.st.k
 refine aK aWe (by simp) ?_
 unfold aPk
 simp -implicitDefEqProofs(disch:=first|decide|omega)only[↓aA,aC,aB,simprocAttr,bB]
 refine aH (aUQ K.st K.w label) rfl (by rintro _ ⟨_,rfl,_⟩;rfl) ?_
 rintro _ ⟨sh,rfl,hshl,hshp⟩
 simp -implicitDefEqProofs(disch:=first|decide|omega)only[↓aA,aC,aB,simprocAttr,bB]
 refine a7 (aE8 K.st label) rfl (by rintro _ ⟨_,_,rfl⟩;rfl) ?_
 rintro _ ⟨a1,a2,rfl⟩
 simp -implicitDefEqProofs(disch:=first|decide|omega)only[↓aA,aC,aB,simprocAttr,bB]
 refine a7 (pV K.st [114,111,111,116] (by decide) label) rfl (by rintro _ ⟨_,_,rfl⟩;rfl) ?_
 rintro _ ⟨b1,b2,rfl⟩
 simp -implicitDefEqProofs(disch:=first|decide|omega)only[↓aA,aC,aB,simprocAttr,bB]
 unfold aDo
 simp -implicitDefEqProofs(disch:=first|decide|omega)only[↓aA,aC,aB,simprocAttr]
 refine aF (σ:=Nat×Int) (fun p=>⟨[(1,.int .i64 label),(2,.ref 0 0 0),(5,.sl false 2 (sh.map SHX)),(6,.int .i64 p.2),(7,.int .i64 (p.1:Int))],[.box (stC s)]⟩) (fun p=>p.1<=sh.length) (fun p=>sh.length-p.1) (0,_) (.inl rfl) (by simp) ?_
 rintro ⟨i,need⟩ hi
 simp only at hi
 unfold aDl
 by_cases hil:i<sh.length
 · have hg:sh.getD i default=sh[i]:=by simp [hil]
   simp -implicitDefEqProofs(disch:=first|decide|omega)only[↓aA,aC,aB,simprocAttr,bB,v7,v8,hg]
   repeat refine And.intro (by omega) ?_
   refine aH (aYz K.st K.w sh[i].path (hshp _ (List.getElem_mem hil)) label) rfl (by rintro _ ⟨_,rfl⟩;rfl) ?_
   rintro _ ⟨nd,rfl⟩
   simp -implicitDefEqProofs(disch:=first|decide|omega)only[↓aA,aC,aB,simprocAttr]
   refine ⟨(i+1,_),.inl rfl,by simp only;omega,by simp only;omega⟩
 have:i=sh.length:=by omega
 subst this
 simp -implicitDefEqProofs(disch:=first|decide|omega)only[↓aA,aC,aB,simprocAttr,bB]
 unfold aDp
 simp -implicitDefEqProofs(disch:=first|decide|omega)only[↓aA,aC,aB,simprocAttr]
 refine aF (σ:=List Int) (fun l=>⟨[(1,.int .i64 label),(2,.ref 0 0 0),(5,.sl false 2 (sh.map SHX)),(6,.int .i64 need),(8,.own 1 1 0 l.length)],[.box (stC s),.arr 1 (l.map I64)]⟩) (fun l=>l.Nodup/\∀ x∈l,x∈s.conts.map bD.id) (fun l=>202-l.length) [] ?_ ⟨by simp,by simp⟩ ?_
 · (refine Sub.of0 [some 0,none] rfl ?_ rfl ?_<;>repeat' first|trivial|rfl|exact .inl rfl|exact .inr ⟨rfl,_,_,rfl⟩|(simp;done)|(simp;omega)|refine And.intro ?_ ?_)
 rintro l ⟨hnd,hin⟩
 have hll:l.length<=201:=by have:=u7 hnd hin;rw [List.length_map] at this;omega
 unfold aDm
 simp -implicitDefEqProofs(disch:=first|decide|omega)only[↓aA,aC,aB,simprocAttr,bB]
 refine nH (aUP K.st [] (by decide) label l (by omega)) (.cons (Vw.refl rfl) (.cons (Vw.refl rfl) (.cons (Vw.refl rfl) (.cons (Vw.sU rfl) .nil)))) (by rintro _ ⟨_,rfl⟩;exact ⟨rfl,rfl⟩) ?_
 rintro _ ⟨mk,rfl⟩
 by_cases hmk:mk<need
 case neg =>
  simp -implicitDefEqProofs(disch:=first|decide|omega)only[↓aA,aC,aB,simprocAttr,bB,hmk]
  exact ⟨l,rfl,hll⟩
 simp -implicitDefEqProofs(disch:=first|decide|omega)only[↓aA,aC,aB,simprocAttr,bB,hmk]
 unfold aDq
 simp -implicitDefEqProofs(disch:=first|decide|omega)only[↓aA,aC,aB,simprocAttr]
 refine aF (σ:=Nat×Int×bD) (fun p=>⟨[(1,.int .i64 label),(2,.ref 0 0 0),(5,.sl false 2 (sh.map SHX)),(6,.int .i64 need),(8,.own 1 1 0 l.length),(9,.int .i64 p.2.1),(10,.ref 2 0 0),(11,.int .i64 (p.1:Int))],[.box (stC s),.arr 1 (l.map I64),.box (cE p.2.2)]⟩) (fun p=>p.1<=sh.length/\0<=p.2.1/\(p.2.1≠0->p.2.2∈s.conts/\p.2.2.id∉l)) (fun p=>sh.length-p.1) (0,0,cI) (.inl rfl) ⟨by simp,by simp,by simp⟩ ?_
 rintro ⟨i,most,x⟩ ⟨hi,hmo,hx⟩
 simp only at hi hmo hx
 unfold aDn
 by_cases hil:i<sh.length
 · have hg:sh.getD i default=sh[i]:=by simp [hil]
   have hp:=hshp _ (List.getElem_mem hil)
   simp -implicitDefEqProofs(disch:=first|decide|omega)only[↓aA,aC,aB,simprocAttr,bB,v7,v8,hg]
   repeat refine And.intro (by omega) ?_
   repeat' first
    | (with_reducible apply And.intro)
    | (refine a7 (pV K.st sh[i].path hp label) rfl (by rintro _ ⟨_,_,rfl⟩;rfl) ?_
       rintro _ ⟨c1,c2,rfl⟩
       simp -implicitDefEqProofs(disch:=first|decide|omega)only[↓aA,aC,aB,simprocAttr,bB,v7,v8])
    | (refine nH (aUP K.st sh[i].path hp label l (by omega)) (.cons (Vw.refl rfl) (.cons (Vw.refl rfl) (.cons (Vw.refl rfl) (.cons (Vw.sU rfl) .nil)))) (by rintro _ ⟨_,rfl⟩;exact ⟨rfl,rfl⟩) ?_
       rintro _ ⟨mk2,rfl⟩
       simp -implicitDefEqProofs(disch:=first|decide|omega)only[↓aA,aC,aB,simprocAttr,bB,v7,v8])
   all_goals
    refine nH (zU true s K sh[i].path label l (by omega)) (.cons (Vw.refl rfl) (.cons (Vw.refl rfl) (.cons (Vw.refl rfl) (.cons (Vw.sU rfl) .nil)))) (by rintro _ ⟨_,_,rfl,_⟩;exact ⟨rfl,rfl⟩) ?_
    rintro _ ⟨c,b,rfl,hcb⟩
    cases b
    · simp -implicitDefEqProofs(disch:=first|decide|omega)only[↓aA,aC,aB,simprocAttr,bB,aY]
      refine ⟨(i+1,most,x),?_,⟨by simp only;omega,hmo,hx⟩,by simp only;omega⟩
      (refine Sub.of0 [some 0,some 1,some 2] rfl ?_ rfl ?_<;>repeat' first|trivial|rfl|exact .inl rfl|exact .inr ⟨rfl,_,_,rfl⟩|(simp;done)|(simp;omega)|refine And.intro ?_ ?_)
    · have hcb:=hcb rfl
      simp -implicitDefEqProofs(disch:=first|decide|omega)only[↓aA,aC,aB,simprocAttr,bB,aY]
      generalize hov:IntKind.i64.wrap (IntKind.i64.wrap (c1-sh[i].mem)-mk2)=ov
      refine a8 (fun hb=>?_) (fun hb=>?_)
      · have hb:=of_decide_eq_true hb
        simp -implicitDefEqProofs(disch:=first|decide|omega)only[↓aA,aC,aB,simprocAttr,bB,aY]
        refine ⟨(i+1,ov,c),?_,⟨by simp only;omega,by simp only;omega,fun _=>hcb⟩,by simp only;omega⟩
        (refine Sub.of0 [some 0,some 1,some 2] rfl ?_ rfl ?_<;>repeat' first|trivial|rfl|exact .inl rfl|exact .inr ⟨rfl,_,_,rfl⟩|(simp;done)|(simp;omega)|refine And.intro ?_ ?_)
      · simp -implicitDefEqProofs(disch:=first|decide|omega)only[↓aA,aC,aB,simprocAttr,bB,aY]
        refine ⟨(i+1,most,x),?_,⟨by simp only;omega,hmo,hx⟩,by simp only;omega⟩
        (refine Sub.of0 [some 0,some 1,some 2] rfl ?_ rfl ?_<;>repeat' first|trivial|rfl|exact .inl rfl|exact .inr ⟨rfl,_,_,rfl⟩|(simp;done)|(simp;omega)|refine And.intro ?_ ?_)
 · have:i=sh.length:=by omega
   subst this
   by_cases hm0:most=0
   · simp -implicitDefEqProofs(disch:=first|decide|omega)only[↓aA,aC,aB,simprocAttr,bB,hm0]
     exact ⟨l,rfl,hll⟩
   · have hx:=hx hm0
     simp -implicitDefEqProofs(disch:=first|decide|omega)only[↓aA,aC,aB,simprocAttr,bB,aY,hm0]
     repeat refine And.intro (by omega) ?_
     refine ⟨l++[x.id],?_,⟨List.nodup_append.2 ⟨hnd,by simp,fun a ha b hb=>by
      simp at hb
      subst hb
      rintro rfl
      exact hx.2 ha⟩,fun y hy=>?_⟩,by simp;omega⟩
     · simp only [List.map_append,List.map_cons,List.map_nil,List.length_append,List.length_cons,List.length_nil]
       (refine Sub.of0 [some 0,some 4] rfl ?_ rfl ?_<;>repeat' first|trivial|rfl|exact .inl rfl|exact .inr ⟨rfl,_,_,rfl⟩|(simp;done)|(simp;omega)|refine And.intro ?_ ?_)
     · rcases List.mem_append.1 hy with h1|h1
       · exact hin y h1
       · simp at h1
         subst h1
         exact List.mem_map.2 ⟨x,hx.1,rfl⟩
end Go.Proofs.YtakemdamegfcfaaGreat
