/- A part of a proof: what functions of the program compute. No condition. -/
import Derived.Test.YtakemdamegfcfaaGreatT20
set_option linter.unusedSimpArgs false
set_option linter.unusedVariables false
set_option maxRecDepth 20000
namespace Go.Proofs.YtakemdamegfcfaaGreat
open Go Go.Ab
section upto
variable {α:Type} {f:α->α} {l:List α} {k:Nat}
theorem aGr (h:k<l.length):((l.take k).map f++l.drop k).set k (f l[k])=(l.take (k+1)).map f++l.drop (k+1):=by
 have h1:((l.take k).map f).length=k:=by simp;omega
 rw [List.drop_eq_getElem_cons h,List.set_append,if_neg (by omega),h1,Nat.sub_self,List.set_cons_zero]
 rw [List.take_succ_eq_append_getElem h,List.map_append,List.append_assoc]
 rfl
theorem aGt [Inhabited α] (h:k<l.length):((l.take k).map f++l.drop k).getD k default=l[k]:=by
 have h1:((l.take k).map f).length=k:=by simp;omega
 rw [List.getD_eq_getElem?_getD,List.getElem?_append_right (by omega),h1,Nat.sub_self]
 simp [h]
theorem aGs:((l.take k).map f++l.drop k).length=l.length:=by
 simp
 omega
end upto
theorem xA (s:Sta) (hl:s.conts.length<2^37) (id t:Int):aT Tryz.prog 182 [.agg (stC s),.int .i64 id,.int .i64 t] (.agg (stC (a2y s id t))):=by
 unfold aT
 refine aO aRV (by simp) ?_
 unfold aPj
 refine Yb ?_
 unfold aDk
 simp -implicitDefEqProofs(disch:=first|decide|omega)only[↓aA,aC,aB,simprocAttr]
 repeat refine And.intro (by omega) ?_
 refine aF (σ:=Nat) (fun k=>⟨[(1,.int .i64 id),(2,.int .i64 t),(3,.ref 0 0 0),(6,.ref 1 0 0),(7,.own 2 9 0 s.conts.length),(8,.int .i64 (k:Int))],[.box (stC s),.box [.aD,.aD,.aD,.aD,.aD,.aD,.aD,.int .i64 0,.int .i64 0,.int .i64 0],.arr 9 (((s.conts.take k).map (dV id t)++s.conts.drop k).map bY)]⟩) (fun k=>k<=s.conts.length) (fun k=>s.conts.length-k) 0 ?_ (by omega) ?_
 · have e:(s.conts.take 0).map (dV id t)++s.conts.drop 0=s.conts:=by simp
   rw [e]
   exact Sub.ofS [some 0,some 1,some 3]
 rintro k hk
 unfold aDj
 by_cases hki:k<s.conts.length
 · have hg:=aGt (f:=dV id t) hki
   have hs:=aGr (f:=dV id t) hki
   have hln:=aGs (f:=dV id t) (l:=s.conts) (k:=k)
   generalize hL:(s.conts.take k).map (dV id t)++s.conts.drop k=L at hg hs hln ⊢
   by_cases hp:s.conts[k].id=id
   · have e:dV id t s.conts[k]={ s.conts[k] with notice:=t }:=if_pos hp
     rw [e] at hs
     simp -implicitDefEqProofs(disch:=first|decide|omega)only[↓aA,aC,aB,simprocAttr,bB,aY,hg]
     repeat refine And.intro (by omega) ?_
     refine ⟨k+1,?_,by omega,by omega⟩
     rw [<- hs]
     exact .inl rfl
   · have e:dV id t s.conts[k]=s.conts[k]:=if_neg hp
     rw [e] at hs
     have hs2:L.set k s.conts[k]=L:=by
      rw [<- hg,List.getD_eq_getElem?_getD,List.getElem?_eq_getElem (by omega)]
      simp
     rw [hs2] at hs
     simp -implicitDefEqProofs(disch:=first|decide|omega)only[↓aA,aC,aB,simprocAttr,bB,aY,hg,hp]
     repeat refine And.intro (by omega) ?_
     refine ⟨k+1,?_,by omega,by omega⟩
     rw [<- hs]
     exact .inl rfl
 · have:k=s.conts.length:=by omega
   subst this
   refine Yj ?_
   rw [List.drop_length,List.append_nil,List.take_of_length_le (by simp)]
   rfl
theorem xB (s u:Sta) (hl:s.conts.length<2^37) (hu:u.conts.length<2^37):aW Tryz.prog 157 [.agg (stC s),.agg (stC u)] [] fun y _=>∃ l:List Int,y= .sl false 1 (l.map I64):=by
 refine aK aWn (by simp) ?_
 unfold aPw
 refine Yb ?_
 unfold aDM
 refine Ya ?_
 refine aF (σ:=Nat×List Int) (fun p=>⟨[(2,.ref 0 0 0),(3,.ref 1 0 0),(5,.own 2 1 0 p.2.length),(6,.int .i64 (p.1:Int))],[.box (stC s),.box (stC u),.arr 1 (p.2.map I64)]⟩) (fun p=>p.1<=s.conts.length/\p.2.length<=p.1) (fun p=>s.conts.length-p.1) (0,[]) ?_ ⟨by simp,by simp⟩ ?_
 · exact Sub.ofS [some 0,some 1,none]
 rintro ⟨k,l⟩ ⟨hk,hl2⟩
 simp only at hk hl2
 unfold aDL
 by_cases hki:k<s.conts.length
 · have hg:s.conts.getD k default=s.conts[k]:=by simp [hki]
   have c92:=kY u (by omega) s.conts[k].id
   unfold dT at c92
   simp -implicitDefEqProofs(disch:=first|decide|omega)only[↓aA,aC,aB,simprocAttr,bB,aY,hg]
   repeat refine And.intro (by omega) ?_
   refine bP (c92) rfl rfl ?_
   cases hf:(gR s.conts[k].id u.conts).isSome
   · simp -implicitDefEqProofs(disch:=first|decide|omega)only[↓aA,aC,aB,simprocAttr,bB,aY,hg]
     repeat refine And.intro (by omega) ?_
     refine ⟨(k+1,l++[s.conts[k].id]),?_,⟨by simp only;omega,by simp;omega⟩,by simp only;omega⟩
     simp only [List.map_append,List.map_cons,List.map_nil,List.length_append,List.length_cons,List.length_nil]
     exact Sub.ofS [some 0,some 1,some 5]
   · simp -implicitDefEqProofs(disch:=first|decide|omega)only[↓aA,aC,aB,simprocAttr,bB,aY,hg]
     repeat refine And.intro (by omega) ?_
     refine ⟨(k+1,l),?_,⟨by simp only;omega,by simp only;omega⟩,by simp only;omega⟩
     exact Sub.ofS [some 0,some 1,some 2]
 · refine Yb ?_
   exact ⟨l,rfl⟩
theorem bq1:(true==true)=true:=rfl
theorem bq2:(false==false)=true:=rfl
theorem bq3:(true==false)=false:=rfl
theorem bq4:(false==true)=false:=rfl
theorem zV (t:Bool) (l:List Int) (hl:l.length<2^40) (n:Int):aT Tryz.prog 224 [.sl t 1 (l.map I64),.int .i64 n] (.bool (l.contains n)):=by
 unfold aT
 refine aK aVW (by simp) ?_
 unfold aOO
 refine Ya ?_
 unfold aCy
 refine Ya ?_
 refine aF (σ:=Nat) (fun k=>⟨[(0,.sl t 1 (l.map I64)),(1,.int .i64 n),(5,.int .i64 (k:Int))],[]⟩) (fun k=>k<=l.length/\l.contains n=(l.drop k).contains n) (fun k=>l.length-k) 0 (.inl rfl) ⟨by omega,by simp⟩ ?_
 rintro k ⟨hk,hf⟩
 unfold aCx
 by_cases hki:k<l.length
 · have hg:l.getD k default=l[k]:=by simp [hki]
   rw [List.drop_eq_getElem_cons hki,List.contains_cons] at hf
   by_cases hp:l[k]=n
   · have hf:l.contains n=true:=by rw [hf,hp];simp
     rw [hf]
     simp -implicitDefEqProofs(disch:=first|decide|omega)only[↓aA,aC,aB,simprocAttr,hg,I64]
     all_goals omega
   · rw [show (n==l[k])=false from by simpa using fun e=>hp e.symm,Bool.false_or] at hf
     simp -implicitDefEqProofs(disch:=first|decide|omega)only[↓aA,aC,aB,simprocAttr,hg,I64,hp]
     repeat refine And.intro (by omega) ?_
     exact ⟨k+1,.inl rfl,⟨by omega,hf⟩,by omega⟩
 · have:k=l.length:=by omega
   subst this
   rw [List.drop_length] at hf
   rw [hf]
   refine Ya ?_
   rfl
set_option maxHeartbeats 4000000 in
theorem zU (t:Bool) (s:Sta) (K:OKS s) (p:List UInt8) (label:Int) (l:List Int) (hl:l.length<2^40):aW Tryz.prog 204 [.agg (stC s),.str p,.int .i64 label,.sl t 1 (l.map I64)] [] fun y _=>∃ c:bD,∃ b:Bool,y= .tup [bY c,.bool b]/\(b=true->c∈s.conts/\c.id∉l):=by
 have hcl:=K.st.k
 refine aO aRP (by simp) ?_
 unfold aO3
 refine Yb ?_
 unfold aCQ
 refine Ya ?_
 refine aF (σ:=Nat×bD×Bool) (fun q=>⟨[(1,.str p),(2,.int .i64 label),(3,.sl t 1 (l.map I64)),(4,.ref 0 0 0),(8,.ref 1 0 0),(10,.ref 2 0 0),(11,.bool q.2.2),(12,.int .i64 (q.1:Int))],[.box (stC s),.box [.int .i64 0,.int .i64 0,.int .i64 0,.int .i64 0,.int .i64 0,.int .i64 0,.int .i64 0,.bool false,.int .i64 0],.box (cE q.2.1)]⟩) (fun q=>q.1<=s.conts.length/\(q.2.2=true->q.2.1∈s.conts/\q.2.1.id∉l)) (fun q=>s.conts.length-q.1) (0,cI,false) (.inl rfl) ⟨by simp,by simp⟩ ?_
 rintro ⟨k,best,is⟩ ⟨hk,hb⟩
 simp only at hk hb
 unfold aCP
 by_cases hki:k<s.conts.length
 · have hg:s.conts.getD k default=s.conts[k]:=by simp [hki]
   have hmem:=List.getElem_mem hki
   generalize hc:s.conts[k]=c at hg hmem
   have skip:∀ H:List AO,Sub 0 (⟨[(1,.str p),(2,.int .i64 label),(3,.sl t 1 (l.map I64)),(4,.ref 0 0 0),(8,.ref 1 0 0),(10,.ref 2 0 0),(11,.bool is),(12,.int .i64 ((k:Int)+1))],[.box (stC s),.box (cE cI),.box (cE best),.box (cE c)]⟩) ⟨[(1,.str p),(2,.int .i64 label),(3,.sl t 1 (l.map I64)),(4,.ref 0 0 0),(8,.ref 1 0 0),(10,.ref 2 0 0),(11,.bool is),(12,.int .i64 ((k+1:Nat):Int))],[.box (stC s),.box (cE cI),.box (cE best)]⟩:=fun _=>by
    exact Sub.ofS [some 0,some 1,some 2]
   by_cases h1:c.label=label
   case neg =>
    simp -implicitDefEqProofs(disch:=first|decide|omega)only[↓aA,aC,aB,simprocAttr,bB,aY,hg,h1]
    repeat refine And.intro (by omega) ?_
    refine ⟨(k+1,best,is),?_,⟨by simp only;omega,hb⟩,by simp only;omega⟩
    exact skip []
   simp -implicitDefEqProofs(disch:=first|decide|omega)only[↓aA,aC,aB,simprocAttr,bB,aY,hg]
   repeat refine And.intro (by omega) ?_
   refine aH (aG8 K.st c) rfl (by rintro _ ⟨_,rfl,_⟩;rfl) ?_
   rintro _ ⟨p2,rfl,_⟩
   cases hpp:(p2==p)
   · simp -implicitDefEqProofs(disch:=first|decide|omega)only[↓aA,aC,aB,simprocAttr,bB,aY,hg,hpp,bne]
     refine ⟨(k+1,best,is),?_,⟨by simp only;omega,hb⟩,by simp only;omega⟩
     exact skip []
   by_cases h0:c.notice=0
   case neg =>
    simp -implicitDefEqProofs(disch:=first|decide|omega)only[↓aA,aC,aB,simprocAttr,bB,aY,hg,hpp,bne,h0]
    refine ⟨(k+1,best,is),?_,⟨by simp only;omega,hb⟩,by simp only;omega⟩
    exact skip []
   simp -implicitDefEqProofs(disch:=first|decide|omega)only[↓aA,aC,aB,simprocAttr,bB,aY,hg,hpp,bne]
   refine aE (aI.of (aM:=false) (zV t l hl c.id) (.refl rfl) rfl (by simp)) ?_
   cases hin:l.contains c.id
   case true =>
    refine Yc ?_
    refine ⟨(k+1,best,is),?_,⟨by simp only;omega,hb⟩,by simp only;omega⟩
    exact skip []
   have hnin:c.id∉l:=by simpa using hin
   refine Yc ?_
   have upd:∀ H:List AO,Sub 0 (⟨[(1,.str p),(2,.int .i64 label),(3,.sl t 1 (l.map I64)),(4,.ref 0 0 0),(8,.ref 1 0 0),(10,.ref 2 0 0),(11,.bool true),(12,.int .i64 ((k:Int)+1))],[.box (stC s),.box (cE cI),.box (cE c),.box (cE c)]⟩) ⟨[(1,.str p),(2,.int .i64 label),(3,.sl t 1 (l.map I64)),(4,.ref 0 0 0),(8,.ref 1 0 0),(10,.ref 2 0 0),(11,.bool true),(12,.int .i64 ((k+1:Nat):Int))],[.box (stC s),.box (cE cI),.box (cE c)]⟩:=fun _=>by
    exact Sub.ofS [some 0,some 1,some 2]
   cases is
   · simp -implicitDefEqProofs(disch:=first|decide|omega)only[↓aA,aC,aB,simprocAttr,bB,aY]
     repeat refine And.intro (by omega) ?_
     exact ⟨(k+1,c,true),upd [],⟨by simp only;omega,fun _=>⟨hmem,hnin⟩⟩,by simp only;omega⟩
   · cases hbm:best.master<;>cases hcm:c.master<;>by_cases hgt:c.id>best.id
     all_goals
      simp -implicitDefEqProofs(disch:=first|decide|omega)only[↓aA,aC,aB,simprocAttr,bB,aY,hbm,hcm,hgt,bq1,bq2,bq3,bq4]
      first
       | exact ⟨(k+1,c,true),upd [],⟨by simp only;omega,fun _=>⟨hmem,hnin⟩⟩,by simp only;omega⟩
       | exact ⟨(k+1,best,true),skip [],⟨by simp only;omega,hb⟩,by simp only;omega⟩
 · refine Yc ?_
   exact ⟨best,is,rfl,hb⟩
theorem aUP {s:Sta} (h:ST s) (p:List UInt8) (hp:p.length<=60) (k:Int) (l:List Int) (hl:l.length<2^40):aW Tryz.prog 203 [.agg (stC s),.str p,.int .i64 k,.sl true 1 (l.map I64)] [] fun y _=>qI y:=by
 have k1:=h.k
 have k2:=h.n
 have k3:=h.a
 have k4:=h.p
 refine aK aV4 (by simp) ?_
 unfold aO4
 refine Yb ?_
 unfold aCS
 refine Ya ?_
 refine aF (σ:=Nat×Int) (fun z=>⟨[(1,.str p),(2,.int .i64 k),(3,.sl true 1 (l.map I64)),(4,.ref 0 0 0),(9,.int .i64 z.2),(10,.int .i64 (z.1:Int))],[.box (stC s)]⟩) (fun z=>z.1<=s.conts.length) (fun z=>s.conts.length-z.1) (0,0) ?_ (by simp) ?_
 · exact Sub.ofS [some 0]
 rintro ⟨i,n⟩ hi
 simp only at hi
 unfold aCR
 by_cases hn:i<s.conts.length
 · simp -implicitDefEqProofs(disch:=first|decide|omega)only[↓aA,aC,aB,simprocAttr,bB,aY]
   repeat' first
    | exact ⟨_,rfl⟩
    | (refine ⟨(i+1,IntKind.i64.wrap (n+(s.conts.getD i default).mem)),?_,by simp only;omega,by simp only;omega⟩;(refine Sub.of0 [some 0] rfl ?_ rfl ?_<;>repeat' first|trivial|rfl|exact .inl rfl|exact .inr ⟨rfl,_,_,rfl⟩|(simp;done)|(simp;omega)|refine And.intro ?_ ?_);done)
    | (refine ⟨(i+1,n),?_,by simp only;omega,by simp only;omega⟩;(refine Sub.of0 [some 0] rfl ?_ rfl ?_<;>repeat' first|trivial|rfl|exact .inl rfl|exact .inr ⟨rfl,_,_,rfl⟩|(simp;done)|(simp;omega)|refine And.intro ?_ ?_);done)
    | with_reducible apply And.intro
    | omega
    | (refine aE (aI.of (aM:=false) (zV true l hl _) (.refl rfl) rfl (by simp)) ?_;simp -implicitDefEqProofs(disch:=first|decide|omega)only[↓aA,aC,aB,simprocAttr,bB,aY])
    | (refine bP (zV true l hl _) rfl rfl ?_;simp -implicitDefEqProofs(disch:=first|decide|omega)only[↓aA,aC,aB,simprocAttr,bB,aY])
    | (refine aH (aG8 h _) rfl (by rintro _ ⟨_,rfl,_⟩;rfl) ?_;rintro _ ⟨pp,rfl,hpp⟩;simp -implicitDefEqProofs(disch:=first|decide|omega)only[↓aA,aC,aB,simprocAttr,bB,aY])
    | (refine a7 (aG8 h _) rfl (by rintro _ ⟨_,rfl,_⟩;rfl) ?_;rintro _ ⟨pp,rfl,hpp⟩;simp -implicitDefEqProofs(disch:=first|decide|omega)only[↓aA,aC,aB,simprocAttr,bB,aY])
    | (refine bC (fun hb=>?_) (fun hb=>?_)<;>simp -implicitDefEqProofs(disch:=first|decide|omega)only[↓aA,aC,aB,simprocAttr,hb,bB,aY])
    | (refine a8 (fun hb=>?_) (fun hb=>?_)<;>simp -implicitDefEqProofs(disch:=first|decide|omega)only[↓aA,aC,aB,simprocAttr,hb,bB,aY])
 · simp -implicitDefEqProofs(disch:=first|decide|omega)only[↓aA,aC,aB,simprocAttr,bB]
   repeat' first
    | exact ⟨_,rfl⟩
    | with_reducible apply And.intro
    | omega
theorem nH {P:Program} {f:FuncId} {args args':List AV} {H:List AO} {K Kp:AV->List AO->Prop} {p:AV->Prop} (h:aW P f args' [] fun y _=>p y) (ha:Vws true H args args') (hp:∀ y,p y->y.low=true/\y.aM=false) (hk:∀ y,p y->K y H):acK P f args H K Kp :=
 (aW.aIa (aM:=true) h ha fun y hy=>⟨(hp y hy).1,fun _=>(hp y hy).2⟩).to fun y G ⟨h1,h2⟩=>by subst h2;exact hk y h1
set_option maxHeartbeats 4000000 in
theorem aGp (s:Sta) (K:OKS s) (label:Int):aW Tryz.prog 181 [.agg (stC s),.int .i64 label] [] fun y _=>∃ l:List Int,y= .sl false 1 (l.map I64)/\l.length<=201:=by
 have hcl:=K.st.k
 refine aK aWe (by simp) ?_
 unfold aPk
 refine Yb ?_
 refine aH (aUQ K.st K.w label) rfl (by rintro _ ⟨_,rfl,_⟩;rfl) ?_
 rintro _ ⟨sh,rfl,hshl,hshp⟩
 refine Yb ?_
 refine a7 (aE8 K.st label) rfl (by rintro _ ⟨_,_,rfl⟩;rfl) ?_
 rintro _ ⟨a1,a2,rfl⟩
 refine Yb ?_
 refine a7 (pV K.st [114,111,111,116] (by decide) label) rfl (by rintro _ ⟨_,_,rfl⟩;rfl) ?_
 rintro _ ⟨b1,b2,rfl⟩
 refine Yb ?_
 unfold aDo
 refine Ya ?_
 refine aF (σ:=Nat×Int) (fun p=>⟨[(1,.int .i64 label),(2,.ref 0 0 0),(5,.sl false 2 (sh.map SHX)),(6,.int .i64 p.2),(7,.int .i64 (p.1:Int))],[.box (stC s)]⟩) (fun p=>p.1<=sh.length) (fun p=>sh.length-p.1) (0,_) (.inl rfl) (by simp) ?_
 rintro ⟨i,need⟩ hi
 simp only at hi
 unfold aDl
 by_cases hil:i<sh.length
 · have hg:sh.getD i default=sh[i]:=by simp [hil]
   simp -implicitDefEqProofs(disch:=first|decide|omega)only[↓aA,aC,aB,simprocAttr,bB,v7,v8,hg]
   repeat refine And.intro (by omega) ?_
   refine aH (aYz K.st K.w sh[i].path (hshp _ (List.getElem_mem hil)) label) rfl (by rintro _ ⟨_,rfl⟩;rfl) ?_
   rintro _ ⟨nd,rfl⟩
   refine Ya ?_
   refine ⟨(i+1,_),.inl rfl,by simp only;omega,by simp only;omega⟩
 have:i=sh.length:=by omega
 subst this
 refine Yb ?_
 unfold aDp
 refine Ya ?_
 refine aF (σ:=List Int) (fun l=>⟨[(1,.int .i64 label),(2,.ref 0 0 0),(5,.sl false 2 (sh.map SHX)),(6,.int .i64 need),(8,.own 1 1 0 l.length)],[.box (stC s),.arr 1 (l.map I64)]⟩) (fun l=>l.Nodup/\∀ x∈l,x∈s.conts.map bD.id) (fun l=>202-l.length) [] ?_ ⟨by simp,by simp⟩ ?_
 · exact Sub.ofS [some 0,none]
 rintro l ⟨hnd,hin⟩
 have hll:l.length<=201:=by have:=u7 hnd hin;rw [List.length_map] at this;omega
 unfold aDm
 refine Yb ?_
 refine nH (aUP K.st [] (by decide) label l (by omega)) (.cons (Vw.refl rfl) (.cons (Vw.refl rfl) (.cons (Vw.refl rfl) (.cons (Vw.sU rfl) .nil)))) (by rintro _ ⟨_,rfl⟩;exact ⟨rfl,rfl⟩) ?_
 rintro _ ⟨mk,rfl⟩
 by_cases hmk:mk<need
 case neg =>
  refine Xb hmk ?_
  exact ⟨l,rfl,hll⟩
 refine Xb hmk ?_
 unfold aDq
 refine Ya ?_
 refine aF (σ:=Nat×Int×bD) (fun p=>⟨[(1,.int .i64 label),(2,.ref 0 0 0),(5,.sl false 2 (sh.map SHX)),(6,.int .i64 need),(8,.own 1 1 0 l.length),(9,.int .i64 p.2.1),(10,.ref 2 0 0),(11,.int .i64 (p.1:Int))],[.box (stC s),.arr 1 (l.map I64),.box (cE p.2.2)]⟩) (fun p=>p.1<=sh.length/\0<=p.2.1/\(p.2.1≠0->p.2.2∈s.conts/\p.2.2.id∉l)) (fun p=>sh.length-p.1) (0,0,cI) (.inl rfl) ⟨by simp,by simp,by simp⟩ ?_
 rintro ⟨i,most,x⟩ ⟨hi,hmo,hx⟩
 simp only at hi hmo hx
 unfold aDn
 by_cases hil:i<sh.length
 · have hg:sh.getD i default=sh[i]:=by simp [hil]
   have hp:=hshp _ (List.getElem_mem hil)
   simp -implicitDefEqProofs(disch:=first|decide|omega)only[↓aA,aC,aB,simprocAttr,bB,v7,v8,hg]
   repeat refine And.intro (by omega) ?_
   repeat' first
    | (with_reducible apply And.intro)
    | (refine a7 (pV K.st sh[i].path hp label) rfl (by rintro _ ⟨_,_,rfl⟩;rfl) ?_
       rintro _ ⟨c1,c2,rfl⟩
       simp -implicitDefEqProofs(disch:=first|decide|omega)only[↓aA,aC,aB,simprocAttr,bB,v7,v8])
    | (refine nH (aUP K.st sh[i].path hp label l (by omega)) (.cons (Vw.refl rfl) (.cons (Vw.refl rfl) (.cons (Vw.refl rfl) (.cons (Vw.sU rfl) .nil)))) (by rintro _ ⟨_,rfl⟩;exact ⟨rfl,rfl⟩) ?_
       rintro _ ⟨mk2,rfl⟩
       simp -implicitDefEqProofs(disch:=first|decide|omega)only[↓aA,aC,aB,simprocAttr,bB,v7,v8])
   all_goals
    refine nH (zU true s K sh[i].path label l (by omega)) (.cons (Vw.refl rfl) (.cons (Vw.refl rfl) (.cons (Vw.refl rfl) (.cons (Vw.sU rfl) .nil)))) (by rintro _ ⟨_,_,rfl,_⟩;exact ⟨rfl,rfl⟩) ?_
    rintro _ ⟨c,b,rfl,hcb⟩
    cases b
    · refine Yc ?_
      refine ⟨(i+1,most,x),?_,⟨by simp only;omega,hmo,hx⟩,by simp only;omega⟩
      exact Sub.ofS [some 0,some 1,some 2]
    · have hcb:=hcb rfl
      refine Yc ?_
      generalize hov:IntKind.i64.wrap (IntKind.i64.wrap (c1-sh[i].mem)-mk2)=ov
      refine a8 (fun hb=>?_) (fun hb=>?_)
      · have hb:=of_decide_eq_true hb
        refine Yc ?_
        refine ⟨(i+1,ov,c),?_,⟨by simp only;omega,by simp only;omega,fun _=>hcb⟩,by simp only;omega⟩
        exact Sub.ofS [some 0,some 1,some 2]
      · refine Yc ?_
        refine ⟨(i+1,most,x),?_,⟨by simp only;omega,hmo,hx⟩,by simp only;omega⟩
        exact Sub.ofS [some 0,some 1,some 2]
 · have:i=sh.length:=by omega
   subst this
   by_cases hm0:most=0
   · refine Xb hm0 ?_
     exact ⟨l,rfl,hll⟩
   · have hx:=hx hm0
     simp -implicitDefEqProofs(disch:=first|decide|omega)only[↓aA,aC,aB,simprocAttr,bB,aY,hm0]
     repeat refine And.intro (by omega) ?_
     refine ⟨l++[x.id],?_,⟨List.nodup_append.2 ⟨hnd,by simp,fun a ha b hb=>by
      simp at hb
      subst hb
      rintro rfl
      exact hx.2 ha⟩,fun y hy=>?_⟩,by simp;omega⟩
     · simp only [List.map_append,List.map_cons,List.map_nil,List.length_append,List.length_cons,List.length_nil]
       exact Sub.ofS [some 0,some 4]
     · rcases List.mem_append.1 hy with h1|h1
       · exact hin y h1
       · simp at h1
         subst h1
         exact List.mem_map.2 ⟨x,hx.1,rfl⟩
theorem rN {B:Nat} {s:Sta} (h:II B s) (ids:List Int) (hB:B+ids.length<=2^39):∀ k,k<=ids.length->SZ (fG s (ids.take k)):=fun k hk=>by
 have h1:=jN (ids.take k) h
 rw [List.length_take,Nat.min_eq_left hk] at h1
 exact (okS h1 (by omega)).sz
def stQ (B:Nat) (y:AV):Prop:=∃ s':Sta,y= .agg (stC s')/\II B s'
theorem aKI {B:Nat} {y:AV} (h:stQ B y):y.low=true:=by
 obtain ⟨s',rfl,_⟩:=h
 rfl
set_option maxHeartbeats 4000000 in
theorem aGq {B:Nat} (s:Sta) (h:II B s) (hB:B+201<=2^39) (label:Int):aW Tryz.prog 180 [.agg (stC s),.int .i64 label] [] fun y _=>stQ (B+201) y:=by
 have K:=okS h (by omega)
 have hcl:=K.st.k
 refine aO aRW (by simp) ?_
 unfold aPl
 refine Yb ?_
 unfold aDt
 refine Ya ?_
 refine aF (σ:=Nat×List bD) (fun p=>⟨[(1,.int .i64 label),(2,.ref 0 0 0),(4,.ref 1 0 0),(5,.own 2 9 0 p.2.length),(6,.int .i64 ((p.1:Int)-1))],[.box (stC s),.box [.aD,.aD,.aD,.aD,.aD,.aD,.aD,.int .i64 0,.int .i64 0,.int .i64 0],.arr 9 (p.2.map bY)]⟩) (fun p=>p.1<=s.conts.length/\p.2.length+p.1<=s.conts.length) (fun p=>p.1) (s.conts.length,[]) ?_ ⟨by simp,by simp⟩ ?_
 · exact Sub.ofS [some 0,some 1,none]
 rintro ⟨k,l⟩ ⟨hk,hl⟩
 simp only at hk hl
 unfold aDr
 cases k with
 | succ k =>
   have e:((k+1:Nat):Int)-1=k:=by omega
   rw [e]
   have hki:k<s.conts.length:=by omega
   have hg:s.conts.getD k default=s.conts[k]:=by simp [hki]
   have hx:=(h.cR _ (List.getElem_mem hki)).notice
   have hnow:=h.now
   have skip:∀ b:Unit,Sub 0 (⟨[(1,.int .i64 label),(2,.ref 0 0 0),(4,.ref 1 0 0),(5,.own 2 9 0 l.length),(6,.int .i64 ((k:Int)-1))],[.box (stC s),.box [.aD,.aD,.aD,.aD,.aD,.aD,.aD,.int .i64 0,.int .i64 0,.int .i64 0],.arr 9 (l.map bY),.box (cE s.conts[k])]⟩) ⟨[(1,.int .i64 label),(2,.ref 0 0 0),(4,.ref 1 0 0),(5,.own 2 9 0 l.length),(6,.int .i64 ((k:Int)-1))],[.box (stC s),.box [.aD,.aD,.aD,.aD,.aD,.aD,.aD,.int .i64 0,.int .i64 0,.int .i64 0],.arr 9 (l.map bY)]⟩:=fun _=>by
    exact Sub.ofS [some 0,some 1,some 2]
   by_cases h1:s.conts[k].label=label
   case neg =>
    simp -implicitDefEqProofs(disch:=first|decide|omega)only[↓aA,aC,aB,simprocAttr,bB,aY,hg,h1]
    repeat refine And.intro (by omega) ?_
    exact ⟨(k,l),skip (),⟨by simp only;omega,by simp only;omega⟩,by simp only;omega⟩
   by_cases h2:s.conts[k].notice=0
   · simp -implicitDefEqProofs(disch:=first|decide|omega)only[↓aA,aC,aB,simprocAttr,bB,aY,hg]
     repeat refine And.intro (by omega) ?_
     exact ⟨(k,l),skip (),⟨by simp only;omega,by simp only;omega⟩,by simp only;omega⟩
   by_cases h3:s.conts[k].notice+3<=s.now
   · simp -implicitDefEqProofs(disch:=first|decide|omega)only[↓aA,aC,aB,simprocAttr,bB,aY,hg,h2]
     repeat refine And.intro (by omega) ?_
     refine ⟨(k,l++[s.conts[k]]),?_,⟨by simp only;omega,by simp;omega⟩,by simp only;omega⟩
     simp only [List.map_append,List.map_cons,List.map_nil,List.length_append,List.length_cons,List.length_nil]
     exact Sub.ofS [some 0,some 1,some 5]
   · simp -implicitDefEqProofs(disch:=first|decide|omega)only[↓aA,aC,aB,simprocAttr,bB,aY,hg,h2]
     repeat refine And.intro (by omega) ?_
     exact ⟨(k,l),skip (),⟨by simp only;omega,by simp only;omega⟩,by simp only;omega⟩
 | zero =>
   simp -implicitDefEqProofs(disch:=first|decide|omega)only[↓aA,aC,aB,simprocAttr,bB]
   unfold aDu
   simp -implicitDefEqProofs(disch:=first|decide|omega)only[↓aA,aC,aB,simprocAttr]
   refine aF (σ:=Nat×Sta) (fun p=>⟨[(1,.int .i64 label),(2,.ref 0 0 0),(4,.ref 1 0 0),(5,.own 2 9 0 l.length),(8,.int .i64 (p.1:Int))],[.box (stC p.2),.box [.aD,.aD,.aD,.aD,.aD,.aD,.aD,.int .i64 0,.int .i64 0,.int .i64 0],.arr 9 (l.map bY)]⟩) (fun p=>p.1<=l.length/\II (B+p.1) p.2) (fun p=>l.length-p.1) (0,s) (.inl rfl) ⟨by simp,h⟩ ?_
   rintro ⟨k,t⟩ ⟨hk,ht⟩
   simp only at hk ht
   unfold aDs
   by_cases hkl:k<l.length
   · have hg:l.getD k default=l[k]:=by simp [hkl]
     have K2:=okS ht (by omega)
     have c92:=kY t (by have:=K2.st.k;omega) l[k].id
     unfold dT at c92
     simp -implicitDefEqProofs(disch:=first|decide|omega)only[↓aA,aC,aB,simprocAttr,bB,aY,hg]
     repeat refine And.intro (by omega) ?_
     refine bP (c92) rfl rfl ?_
     cases hf:gR l[k].id t.conts with
     | none =>
       simp -implicitDefEqProofs(disch:=first|decide|omega)only[↓aA,aC,aB,simprocAttr,bB,aY,Option.isSome_none,Option.getD_none]
       refine ⟨(k+1,t),?_,⟨by simp only;omega,ht.mono (by simp only;omega)⟩,by simp only;omega⟩
       exact Sub.ofS [some 0,some 1,some 2]
     | some c =>
       simp -implicitDefEqProofs(disch:=first|decide|omega)only[↓aA,aC,aB,simprocAttr,bB,aY,Option.isSome_some,Option.getD_some]
       refine a7 (aG8 K2.st c) rfl (by rintro _ ⟨_,rfl,_⟩;rfl) ?_
       rintro _ ⟨p1,rfl,hp1⟩
       simp -implicitDefEqProofs(disch:=first|decide|omega)only[↓aA,aC,aB,simprocAttr]
       refine a7 (pV K2.st p1 hp1 label) rfl (by rintro _ ⟨_,_,rfl⟩;rfl) ?_
       rintro _ ⟨v1,v2,rfl⟩
       simp -implicitDefEqProofs(disch:=first|decide|omega)only[↓aA,aC,aB,simprocAttr]
       refine a7 (aYB K2.st c) rfl (by rintro _ ⟨_,rfl⟩;rfl) ?_
       rintro _ ⟨n1,rfl⟩
       simp -implicitDefEqProofs(disch:=first|decide|omega)only[↓aA,aC,aB,simprocAttr]
       refine a7 (aG8 K2.st c) rfl (by rintro _ ⟨_,rfl,_⟩;rfl) ?_
       rintro _ ⟨p2,rfl,hp2⟩
       simp -implicitDefEqProofs(disch:=first|decide|omega)only[↓aA,aC,aB,simprocAttr]
       refine a7 (aYA K2.st K2.w label p2 hp2) rfl (by rintro _ ⟨_,rfl⟩;rfl) ?_
       rintro _ ⟨n2,rfl⟩
       simp -implicitDefEqProofs(disch:=first|decide|omega)only[↓aA,aC,aB,simprocAttr]
       refine a8 (fun hb=>?_) (fun hb=>?_)
       · simp -implicitDefEqProofs(disch:=first|decide|omega)only[↓aA,aC,aB,simprocAttr,bB,aY]
         have c52:=rO true t [c.id] (by simp) (rN ht [c.id] (by simp only [List.length_singleton];omega))
         refine aE (aI.of (aM:=true) c52 (.cons (Vw.refl rfl) (.cons (Vw.wA (f:=I64) (l:=[c.id]) rfl rfl) .nil)) rfl (fun _=>rfl)) ?_
         simp -implicitDefEqProofs(disch:=first|decide|omega)only[↓aA,aC,aB,simprocAttr,bB]
         refine ⟨(k+1,fG t [c.id]),?_,⟨by simp only;omega,jN [c.id] ht⟩,by simp only;omega⟩
         exact Sub.ofS [some 0,some 1,some 2]
       · simp -implicitDefEqProofs(disch:=first|decide|omega)only[↓aA,aC,aB,simprocAttr,bB,aY]
         refine aE (aI.of (aM:=false) (xA t (by have:=K2.st.k;omega) c.id 0) (.refl rfl) rfl (by simp)) ?_
         simp -implicitDefEqProofs(disch:=first|decide|omega)only[↓aA,aC,aB,simprocAttr,bB]
         refine ⟨(k+1,a2y t c.id 0),?_,⟨by simp only;omega,(x5 ht c.id 0 ⟨by omega,.inr (by omega)⟩).mono (by simp only;omega)⟩,by simp only;omega⟩
         exact Sub.ofS [some 0,some 1,some 2]
   · simp -implicitDefEqProofs(disch:=first|decide|omega)only[↓aA,aC,aB,simprocAttr,bB]
     exact ⟨t,rfl,ht.mono (by omega)⟩
def aBn (B:Nat) (y:AV):Prop:=∃ s':Sta,∃ l:List Int,y= .tup [.agg (stC s'),.sl false 1 (l.map I64)]/\II B s'
theorem w9 {B:Nat} {y:AV} (h:aBn B y):y.low=true:=by
 obtain ⟨s',l,rfl,_⟩:=h
 rfl
set_option maxHeartbeats 4000000 in
theorem aEV {B:Nat} (s:Sta) (h:II B s) (hB:B+1000<=2^39):aW Tryz.prog 156 [.agg (stC s)] [] fun y _=>aBn (B+1000) y:=by
 have K:=okS h (by omega)
 refine aO aRZ (by simp) ?_
 unfold aPx
 refine Yb ?_
 unfold aDP
 refine Ya ?_
 refine aF (σ:=Nat×Sta) (fun p=>⟨[(1,.ref 0 0 0),(2,.ref 1 0 0),(4,.ref 2 0 0),(5,.int .i64 (p.1:Int))],[.box (stC p.2),.box [.aD,.aD,.aD,.aD,.aD,.aD,.aD,.int .i64 0,.int .i64 0,.int .i64 0],.box (stC s)]⟩) (fun p=>p.1<=3/\II (B+201*p.1) p.2) (fun p=>3-p.1) (0,s) (.inl rfl) ⟨by simp,h⟩ ?_
 rintro ⟨i,t⟩ ⟨hi,ht⟩
 simp only at hi ht
 unfold aDN
 have K2:=okS ht (by omega)
 have hL:=K2.st.c.l3
 by_cases hil:i<t.labels.length
 · refine Yb ?_
   refine aH (aGq t ht (by omega) i) rfl (fun y hy=>aKI hy) ?_
   rintro _ ⟨u,rfl,hu⟩
   refine Yb ?_
   have K3:=okS hu (by omega)
   refine aH (aGp u K3 i) rfl (by rintro _ ⟨_,rfl,_⟩;rfl) ?_
   rintro _ ⟨l,rfl,hll⟩
   refine Yb ?_
   unfold aDQ
   refine Ya ?_
   refine aF (σ:=Nat×Sta) (fun p=>⟨[(1,.ref 0 0 0),(2,.ref 1 0 0),(4,.ref 2 0 0),(5,.int .i64 (i:Int)),(6,.sl false 1 (l.map I64)),(7,.int .i64 (p.1:Int))],[.box (stC p.2),.box [.aD,.aD,.aD,.aD,.aD,.aD,.aD,.int .i64 0,.int .i64 0,.int .i64 0],.box (stC s)]⟩) (fun p=>p.1<=l.length/\II (B+201*i+201) p.2) (fun p=>l.length-p.1) (0,u) (.inl rfl) ⟨by simp,hu⟩ ?_
   rintro ⟨j,v⟩ ⟨hj,hv⟩
   simp only at hj hv
   unfold aDO
   by_cases hjl:j<l.length
   · have hg:l.getD j default=l[j]:=by simp [hjl]
     have K4:=okS hv (by omega)
     have hnow:=hv.now
     simp -implicitDefEqProofs(disch:=first|decide|omega)only[↓aA,aC,aB,simprocAttr,bB,hg,I64]
     repeat refine And.intro (by omega) ?_
     refine aE (aI.of (aM:=false) (xA v (by have:=K4.st.k;omega) l[j] (max v.now 1)) (.refl rfl) rfl (by simp)) ?_
     refine Yb ?_
     refine ⟨(j+1,a2y v l[j] (max v.now 1)),?_,⟨by simp only;omega,x5 hv _ _ ⟨by omega,by omega⟩⟩,by simp only;omega⟩
     exact Sub.ofS [some 0,some 1,some 2]
   · refine Yb ?_
     refine ⟨(i+1,v),?_,⟨by simp only;omega,hv.mono (by simp only;omega)⟩,by simp only;omega⟩
     exact Sub.ofS [some 0,some 1,some 2]
 · refine Yb ?_
   refine a7 (xB s t (by have:=K.st.k;omega) (by have:=K2.st.k;omega)) rfl (by rintro _ ⟨_,rfl⟩;rfl) ?_
   rintro _ ⟨l,rfl⟩
   refine Yb ?_
   exact ⟨t,l,rfl,ht.mono (by omega)⟩
end Go.Proofs.YtakemdamegfcfaaGreat
