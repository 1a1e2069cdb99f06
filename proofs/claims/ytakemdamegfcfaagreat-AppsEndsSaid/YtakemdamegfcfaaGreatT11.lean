/- A part of a proof: what functions of the program compute. No condition. -/
import Derived.Test.YtakemdamegfcfaaGreatProg
import Derived.KernelRfl
import Derived.Test.YtakemdamegfcfaaGreatT6
import Derived.Test.YtakemdamegfcfaaGreatT10
import Derived.Test.YtakemdamegfcfaaGreatT9
set_option linter.unusedSimpArgs false
set_option linter.unusedVariables false
set_option maxHeartbeats 16000000
set_option maxRecDepth 100000
namespace Go.Proofs.YtakemdamegfcfaaGreat
open Go Go.Ab
def R18:{c:CC // aJ Tryz.prog 18=c}:=⟨_,by conv=>lhs;reduce⟩
def S18:{c:CC // bA Tryz.prog 18 {} R18.1 []=c}:=⟨_,by conv=>lhs;reduce⟩
def aXR:CC:=(fun (c:CC) (_:(S18.1)=c)=>c) _ (by conv=>lhs;reduce)
theorem aVz:aX Tryz.prog 18 aXR [.ce 4 41 10 true,.tm 5] 90:=aX.of Tryz.f18 Tryz.func18 rfl ⟨by kernel_rfl,trivial⟩
def R22:{c:CC // aJ Tryz.prog 22=c}:=⟨_,by conv=>lhs;reduce⟩
def S22:{c:CC // bA Tryz.prog 22 {} R22.1 []=c}:=⟨_,by conv=>lhs;reduce⟩
def aSR:CC:=(fun (c:CC) (_:(S22.1)=c)=>c) _ (by conv=>lhs;reduce)
theorem aOb:aX Tryz.prog 22 aSR [.ce 4 27 2 true] 16:=aX.of Tryz.f22 Tryz.func22 rfl ⟨by kernel_rfl,trivial⟩
def R24:{c:CC // aJ Tryz.prog 24=c}:=⟨_,by conv=>lhs;reduce⟩
def S24:{c:CC // bA Tryz.prog 24 {} R24.1 []=c}:=⟨_,by conv=>lhs;reduce⟩
def aJP:CC:=(fun (c:CC) (_:(S24.1.aV [1,0,1,0,0])=c)=>c) _ (by conv=>lhs;reduce)
def aJQ:CC:=(fun (c:CC->CC) (_:(fun a0=>(S24.1.aV [1,0,1]).aU [0,0] a0)=c)=>c) _ (by conv=>lhs;reduce) aJP
def aXN:CC:=(fun (c:CC->CC) (_:(fun a0=>(S24.1).aU [1,0,1] a0)=c)=>c) _ (by conv=>lhs;reduce) aJQ
theorem aVv:aX Tryz.prog 24 aXN [.ce 4 29 8 true,.tm 5] 28:=aX.of Tryz.f24 Tryz.func24 rfl ⟨by kernel_rfl,trivial⟩
def R25:{c:CC // aJ Tryz.prog 25=c}:=⟨_,by conv=>lhs;reduce⟩
def S25:{c:CC // bA Tryz.prog 25 {} R25.1 [([1,1,0,1,0,0,1,0,0,1,0],(.f [1,3,0,2,4,5,6,7,8]))]=c}:=⟨_,by conv=>lhs;reduce⟩
def aJN:CC:=(fun (c:CC) (_:(S25.1.aV [1,1,0,1,0,0])=c)=>c) _ (by conv=>lhs;reduce)
def aJO:CC:=(fun (c:CC->CC) (_:(fun a0=>(S25.1.aV [1,1,0,1]).aU [0,0] a0)=c)=>c) _ (by conv=>lhs;reduce) aJN
def aXM:CC:=(fun (c:CC->CC) (_:(fun a0=>(S25.1).aU [1,1,0,1] a0)=c)=>c) _ (by conv=>lhs;reduce) aJO
theorem aVu:aX Tryz.prog 25 aXM [.ce 4 27 2 true] 32:=aX.of Tryz.f25 Tryz.func25 rfl ⟨by kernel_rfl,trivial⟩
def R26:{c:CC // aJ Tryz.prog 26=c}:=⟨_,by conv=>lhs;reduce⟩
def S26:{c:CC // bA Tryz.prog 26 {} R26.1 [([1,1,1,0],(.f [0,3,1,2,2004,2005,6]))]=c}:=⟨_,by conv=>lhs;reduce⟩
def aXL:CC:=(fun (c:CC) (_:(S26.1)=c)=>c) _ (by conv=>lhs;reduce)
theorem aVt:aX Tryz.prog 26 aXL [.ce 4 27 2 true] 27:=aX.of Tryz.f26 Tryz.func26 rfl ⟨by kernel_rfl,trivial⟩
def R29:{c:CC // aJ Tryz.prog 29=c}:=⟨_,by conv=>lhs;reduce⟩
def S29:{c:CC // bA Tryz.prog 29 {} R29.1 []=c}:=⟨_,by conv=>lhs;reduce⟩
def aJL:CC:=(fun (c:CC) (_:(S29.1.aV [1,1,0,1,0,0])=c)=>c) _ (by conv=>lhs;reduce)
def aJM:CC:=(fun (c:CC->CC) (_:(fun a0=>(S29.1.aV [1,1,0,1]).aU [0,0] a0)=c)=>c) _ (by conv=>lhs;reduce) aJL
def aXK:CC:=(fun (c:CC->CC) (_:(fun a0=>(S29.1).aU [1,1,0,1] a0)=c)=>c) _ (by conv=>lhs;reduce) aJM
theorem aYZ:aZ Tryz.prog 29 aXK [2] 40:=aZ.of Tryz.f29 Tryz.func29 rfl
def R31:{c:CC // aJ Tryz.prog 31=c}:=⟨_,by conv=>lhs;reduce⟩
def S31:{c:CC // bA Tryz.prog 31 {} R31.1 []=c}:=⟨_,by conv=>lhs;reduce⟩
def aXJ:CC:=(fun (c:CC) (_:(S31.1)=c)=>c) _ (by conv=>lhs;reduce)
theorem aVs:aX Tryz.prog 31 aXJ [.ce 6 41 10 true,.tm 7] 50:=aX.of Tryz.f31 Tryz.func31 rfl ⟨by kernel_rfl,trivial⟩
def R63:{c:CC // aJ Tryz.prog 63=c}:=⟨_,by conv=>lhs;reduce⟩
def S63:{c:CC // bA Tryz.prog 63 {} R63.1 []=c}:=⟨_,by conv=>lhs;reduce⟩
def aXu:CC:=(fun (c:CC) (_:(S63.1)=c)=>c) _ (by conv=>lhs;reduce)
theorem aYT:aZ Tryz.prog 63 aXu [2] 9:=aZ.of Tryz.f63 Tryz.func63 rfl
def R64:{c:CC // aJ Tryz.prog 64=c}:=⟨_,by conv=>lhs;reduce⟩
def S64:{c:CC // bA Tryz.prog 64 {} R64.1 []=c}:=⟨_,by conv=>lhs;reduce⟩
def aJg:CC:=(fun (c:CC) (_:(S64.1.aV [1,1,0,0,0])=c)=>c) _ (by conv=>lhs;reduce)
def aJh:CC:=(fun (c:CC->CC) (_:(fun a0=>(S64.1.aV [1,1,0]).aU [0,0] a0)=c)=>c) _ (by conv=>lhs;reduce) aJg
def aXt:CC:=(fun (c:CC->CC) (_:(fun a0=>(S64.1).aU [1,1,0] a0)=c)=>c) _ (by conv=>lhs;reduce) aJh
theorem aVi:aX Tryz.prog 64 aXt [.ce 4 41 10 true] 61:=aX.of Tryz.f64 Tryz.func64 rfl ⟨by kernel_rfl,trivial⟩
def R68:{c:CC // aJ Tryz.prog 68=c}:=⟨_,by conv=>lhs;reduce⟩
def S68:{c:CC // bA Tryz.prog 68 {} R68.1 []=c}:=⟨_,by conv=>lhs;reduce⟩
def aSO:CC:=(fun (c:CC) (_:(S68.1)=c)=>c) _ (by conv=>lhs;reduce)
theorem aOa:aX Tryz.prog 68 aSO [.ce 4 27 2 true] 18:=aX.of Tryz.f68 Tryz.func68 rfl ⟨by kernel_rfl,trivial⟩
def a1d:{c:CC // aJ Tryz.prog 154=c}:=⟨_,by conv=>lhs;reduce⟩
def aZJ:{c:CC // bA Tryz.prog 154 {} a1d.1 []=c}:=⟨_,by conv=>lhs;reduce⟩
def aPz:CC:=(fun (c:CC) (_:(aZJ.1)=c)=>c) _ (by conv=>lhs;reduce)
theorem aR0:aX Tryz.prog 154 aPz [.ce 4 41 10 true] 20:=aX.of Tryz.f154 Tryz.func154 rfl ⟨by kernel_rfl,trivial⟩
def rW:Node:=⟨0,0,0,0,0,0,0,false⟩
def dT {α:Type} (f:α->AV) (z:α) (o:Option α):AV:=.tup [f (o.getD z),.bool o.isSome]
theorem kV (s:Sta) (hl:s.nodes.length<2^62) (id:Int):aT Tryz.prog 24 [.agg (stC s),.int .i64 id] (dT bO rW (eH id s.nodes)):=by
 unfold aT
 refine aO aVv (by simp) ?_
 unfold aXN dT eH
 refine Yf ?_
 unfold aJQ
 refine Ya ?_
 refine aF (σ:=Nat) (fun k=>⟨[(1,.int .i64 id),(2,.ref 0 0 0),(4,.ref 1 0 0),(6,.int .i64 (k:Int))],[.box (stC s),.box (cB rW)]⟩) (fun k=>k<=s.nodes.length/\s.nodes.find? (fun a=>a.id==id)=(s.nodes.drop k).find? (fun a=>a.id==id)) (fun k=>s.nodes.length-k) 0 (.inl rfl) ⟨by omega,by simp⟩ ?_
 rintro k ⟨hk,hf⟩
 unfold aJP
 by_cases hki:k<s.nodes.length
 · have hg:s.nodes.getD k default=s.nodes[k]:=by simp [hki]
   rw [List.drop_eq_getElem_cons hki,List.find?_cons] at hf
   by_cases hp:s.nodes[k].id=id
   · rw [beq_iff_eq.2 hp] at hf
     simp -implicitDefEqProofs(disch:=first|decide|omega)only[↓aA,aC,aB,simprocAttr,stC,lV,hg,hf,hp,List.append_nil]
     exact ⟨by omega,by omega,by omega,by omega,rfl⟩
   · rw [beq_eq_false_iff_ne.2 hp] at hf
     simp -implicitDefEqProofs(disch:=first|decide|omega)only[↓aA,aC,aB,simprocAttr,stC,lV,hg,hp]
     exact ⟨by omega,by omega,k+1,.inl rfl,⟨by omega,hf⟩,by omega⟩
 · have:k=s.nodes.length:=by omega
   subst this
   rw [List.drop_length] at hf
   simp -implicitDefEqProofs(disch:=first|decide|omega)only[↓aA,aC,aB,simprocAttr,stC,lV,hf,cA,bU]
   repeat' first|rfl|apply And.intro
theorem lI {α:Type} {key:α->Int} {n:α}:∀ {l:List α} {k:Nat} (hk:k<=l.length) (h1:∀ j,(hj:j<k)->key (l[j]'(by omega))<key n) (h2:∀ h:k<l.length,¬ key l[k]<key n),
 eE key n l=l.take k++n :: (if h:k<l.length then (if key l[k]=key n then l.drop (k+1) else l.drop k) else [])
 | [],k,hk,_,_=>by
   simp only [List.length_nil] at hk
   have:k=0:=by omega
   subst this
   simp [eE]
 | x :: r,0,hk,h1,h2=>by
   have:=h2 (by simp)
   simp only [List.getElem_cons_zero] at this
   unfold eE
   rw [if_neg this]
   by_cases he:key x=key n<;>simp [he]
 | x :: r,k+1,hk,h1,h2=>by
   have h0:=h1 0 (by omega)
   simp only [List.getElem_cons_zero] at h0
   simp only [List.length_cons] at hk
   unfold eE
   rw [if_pos h0,lI (k:=k) (by omega) (fun j hj=>by simpa using h1 (j+1) (by omega)) (fun h=>by have h3:=h2 (by simp only [List.length_cons];omega);rwa [List.getElem_cons_succ] at h3)]
   simp
theorem j5 {α:Type} {key:α->Int} {n:α}:∀ {l:List α} {k:Nat} (hk:k<=l.length) (h1:∀ j,(hj:j<k)->key (l[j]'(by omega))<key n) (h2:∀ h:k<l.length,¬ key l[k]<key n),
 gH key n l=l.take k++n :: l.drop k
 | [],k,hk,_,_=>by
   simp only [List.length_nil] at hk
   have:k=0:=by omega
   subst this
   simp [gH]
 | x :: r,0,hk,h1,h2=>by
   have:=h2 (by simp)
   simp only [List.getElem_cons_zero] at this
   unfold gH
   rw [if_neg this]
   simp
 | x :: r,k+1,hk,h1,h2=>by
   have h0:=h1 0 (by omega)
   simp only [List.getElem_cons_zero] at h0
   simp only [List.length_cons] at hk
   unfold gH
   rw [if_pos h0,j5 (k:=k) (by omega) (fun j hj=>by simpa using h1 (j+1) (by omega)) (fun h=>by have h3:=h2 (by simp only [List.length_cons];omega);rwa [List.getElem_cons_succ] at h3)]
   simp
theorem wB (s:Sta) (hl:s.nodes.length<2^40) (n:Node):aT Tryz.prog 64 [.agg (stC s),bO n] (.agg (stC (jM s n))):=by
 unfold aT
 refine aO aVi (by simp) ?_
 unfold aXt
 simp -implicitDefEqProofs(disch:=first|decide|omega)only[↓aA,aC,aB,simprocAttr,stC,lV]
 unfold aJh
 refine Ya ?_
 refine aF (σ:=Nat) (fun k=>⟨[(2,.ref 0 0 0),(3,.ref 1 0 0),(4,.ref 2 0 0),(5,.int .i64 (k:Int))],[.box (stC s),.box (cB n),.box [.aD,.aD,.aD,.aD,.aD,.aD,.aD,.int .i64 0,.int .i64 0,.int .i64 0]]⟩) (fun k=>k<=s.nodes.length/\∀ j,(hj:j<k)->(h:j<s.nodes.length)->s.nodes[j].id<n.id) (fun k=>s.nodes.length-k) 0 (.inl rfl) ⟨by omega,fun j hj=>by omega⟩ ?_
 rintro k ⟨hk,hf⟩
 unfold aJg
 by_cases hki:k<s.nodes.length
 · have hg:s.nodes.getD k default=s.nodes[k]:=by simp [hki]
   by_cases hp:s.nodes[k].id<n.id
   · simp -implicitDefEqProofs(disch:=first|decide|omega)only[↓aA,aC,aB,simprocAttr,stC,lV,hg,hp]
     exact ⟨by omega,by omega,k+1,.inl rfl,⟨by omega,fun j hj h=>by
      by_cases hjk:j=k
      · subst hjk;exact hp
      · exact hf j (by omega) h⟩,by omega⟩
   · have e:=lI (key:=Node.id) (n:=n) hk (fun j hj=>hf j hj (by omega)) (fun _=>hp)
     rw [dif_pos hki] at e
     by_cases hq:s.nodes[k].id=n.id
     · rw [if_pos hq] at e
       simp -implicitDefEqProofs(disch:=first|decide|omega)only[↓aA,aC,aB,simprocAttr,stC,lV,hg,hp,hq,List.append_nil]
       unfold jM
       simp only [e]
       repeat' first|omega|apply And.intro
       simp [List.take_of_length_le,Nat.min_eq_left hk]
       exact List.take_of_length_le (by simp;omega)
     · rw [if_neg hq] at e
       simp -implicitDefEqProofs(disch:=first|decide|omega)only[↓aA,aC,aB,simprocAttr,stC,lV,hg,hp,hq,List.append_nil]
       unfold jM
       simp only [e]
       repeat' first|omega|apply And.intro
       simp [List.take_of_length_le,Nat.min_eq_left hk]
       exact List.take_of_length_le (by simp;omega)
 · have e:=lI (key:=Node.id) (n:=n) hk (fun j hj=>hf j hj (by omega)) (fun h=>absurd h hki)
   rw [dif_neg hki] at e
   have:k=s.nodes.length:=by omega
   subst this
   simp -implicitDefEqProofs(disch:=first|decide|omega)only[↓aA,aC,aB,simprocAttr,stC,lV,List.append_nil]
   unfold jM
   simp only [e]
   repeat' first|omega|apply And.intro
   simp [List.take_of_length_le,Nat.min_eq_left hk]
   done
theorem aBz (a b c d:Int) (h1: -2^62<=a+c/\a+c<=2^62) (h2: -2^62<=b+d/\b+d<=2^62):aT Tryz.prog 22 [.agg [.int .i64 a,.int .i64 b],.agg [.int .i64 c,.int .i64 d]] (.agg [.int .i64 (a+c),.int .i64 (b+d)]):=by
 unfold aT
 refine aO aOb (by simp) ?_
 unfold aSR
 simp -implicitDefEqProofs(disch:=first|decide|omega)only[↓aA,aC,aB,simprocAttr,cA,bU,List.append_nil]
 repeat' first|rfl|apply And.intro
theorem x3 (a:Int):aT Tryz.prog 63 [.int .i64 a] (.bool (decide (0<=a/\a<=2^30))):=by
 unfold aT
 refine aK aYT (by simp) ?_
 unfold aXu
 by_cases h:0<=a
 · simp -implicitDefEqProofs(disch:=first|decide|omega)only[↓aA,aC,aB,simprocAttr,h]
 · simp -implicitDefEqProofs(disch:=first|decide|omega)only[↓aA,aC,aB,simprocAttr,h]
theorem aHG (s:Sta) (hl:s.conts.length<=2^20) (hc:∀ c∈s.conts,okV c.mem c.cores) (id:Int):aT Tryz.prog 25 [.agg (stC s),.int .i64 id] (.agg [.int .i64 (bR id s.conts).1,.int .i64 (bR id s.conts).2]):=by
 unfold aT
 refine aO aVu (by simp) ?_
 unfold aXM
 simp -implicitDefEqProofs(disch:=first|decide|omega)only[↓aA,aC,aB,simprocAttr,stC,cA,bU]
 unfold aJO
 refine Ya ?_
 refine aF (σ:=Nat) (fun k=>⟨[(1,.int .i64 id),(2,.ref 0 0 0),(4,.ref 1 0 0),(5,.ref 2 0 0),(6,.int .i64 (k:Int))],[.box (stC s),.box [.int .i64 0,.int .i64 0],.box [.int .i64 (bR id (s.conts.take k)).1,.int .i64 (bR id (s.conts.take k)).2]]⟩) (fun k=>k<=s.conts.length) (fun k=>s.conts.length-k) 0 ?_ (by omega) ?_
 · exact .inl rfl
 rintro k hk
 unfold aJN
 by_cases hki:k<s.conts.length
 · have hg:s.conts.getD k default=s.conts[k]:=by simp [hki]
   have hx:=hc _ (List.getElem_mem hki)
   have hr:=kM (id:=id) (l:=s.conts.take k) fun c h=>hc c (List.mem_of_mem_take h)
   rw [List.length_take] at hr
   have e:s.conts.take (k+1)=s.conts.take k++[s.conts[k]]:=by simp
   have hu:=pH (id:=id) (l:=s.conts.take k) (c:=s.conts[k])
   rw [<- e] at hu
   unfold okV at hx
   by_cases hp:s.conts[k].node=id
   · rw [if_pos hp] at hu
     simp -implicitDefEqProofs(disch:=first|decide|omega)only[↓aA,aC,aB,simprocAttr,stC,aIP,aIQ,hg,hp,List.append_nil]
     refine ⟨by omega,by omega,by omega,by omega,?_⟩
     refine aE (aI.of (aM:=false) (aBz _ _ _ _ (by omega) (by omega)) (.refl rfl) rfl (by simp)) ?_
     refine Xa hu ?_
     refine ⟨k+1,?_,by omega,by omega⟩
     rw [hu]
     exact .inl rfl
   · rw [if_neg hp] at hu
     simp -implicitDefEqProofs(disch:=first|decide|omega)only[↓aA,aC,aB,simprocAttr,stC,aIP,aIQ,hg,hp]
     refine ⟨by omega,by omega,k+1,?_,by omega,by omega⟩
     rw [hu]
     exact .inl rfl
 · have:k=s.conts.length:=by omega
   subst this
   simp -implicitDefEqProofs(disch:=first|decide|omega)only[↓aA,aC,aB,simprocAttr,stC,List.take_length]
theorem cH {α:Type} {p:α->Bool} {l:List α} {k:Nat} (h:k<l.length):(l.take (k+1)).filter p=(l.take k).filter p++if p l[k]=true then [l[k]] else []:=by
 rw [List.take_succ_eq_append_getElem h,List.filter_append]
 cases h2:p l[k]<;>simp [h2]
theorem dA {α:Type} {p:α->Bool} {l:List α} {k:Nat}:((l.take k).filter p).length<=l.length :=
 Nat.le_trans (List.length_filter_le _ _) (by simp;omega)
def quiet (now:Int) (n:Node):Bool:=n.up&&decide (10<=now-n.seen)
theorem aAk (s:Sta) (hl:s.nodes.length<=2^20) (hn:0<=s.now/\s.now<=1000000000) (hc:∀ n∈s.nodes,0<=n.seen/\n.seen<=1000000000):aT Tryz.prog 29 [.agg (stC s)] (.sl false 1 (((s.nodes.filter (quiet s.now)).map Node.id).map I64)):=by
 refine aT.wk3 (aK aYZ (by simp) ?_)
 unfold aXK
 refine Yf ?_
 unfold aJM
 refine Ya ?_
 refine aF (σ:=Nat) (fun k=>⟨[(1,.ref 0 0 0),(3,.own 1 1 0 ((s.nodes.take k).filter (quiet s.now)).length),(4,.int .i64 (k:Int))],[.box (stC s),.arr 1 ((((s.nodes.take k).filter (quiet s.now)).map Node.id).map I64)]⟩) (fun k=>k<=s.nodes.length) (fun k=>s.nodes.length-k) 0 ?_ (by omega) ?_
 · exact Sub.ofS [some 0,none]
 rintro k hk
 unfold aJL
 have hfl:=dA (p:=quiet s.now) (l:=s.nodes) (k:=k)
 by_cases hki:k<s.nodes.length
 · have hg:s.nodes.getD k default=s.nodes[k]:=by simp [hki]
   have hx:=hc _ (List.getElem_mem hki)
   have e:=cH (p:=quiet s.now) hki
   by_cases hu:s.nodes[k].up=true
   · by_cases h10:10<=s.now-s.nodes[k].seen
     · have hq:quiet s.now s.nodes[k]=true:=by unfold quiet;rw [hu,decide_eq_true h10];rfl
       rw [if_pos hq] at e
       generalize (s.nodes.take k).filter (quiet s.now)=out at e hfl ⊢
       simp -implicitDefEqProofs(disch:=first|decide|omega)only[↓aA,aC,aB,simprocAttr,stC,lV,aBC,hg,hu]
       repeat refine And.intro (by omega) ?_
       refine ⟨k+1,?_,by omega,by omega⟩
       simp only [e,List.map_append,List.map_cons,List.map_nil,List.length_append,List.length_cons,List.length_nil]
       exact Sub.ofS [some 0,some 3]
     · have hq:quiet s.now s.nodes[k]=false:=by unfold quiet;rw [hu,decide_eq_false h10];rfl
       rw [if_neg (by rw [hq];simp),List.append_nil] at e
       simp -implicitDefEqProofs(disch:=first|decide|omega)only[↓aA,aC,aB,simprocAttr,stC,lV,aBC,hg,hu]
       repeat refine And.intro (by omega) ?_
       refine ⟨k+1,?_,by omega,by omega⟩
       rw [e]
       exact .inl rfl
   · have hu:s.nodes[k].up=false:=by simpa using hu
     have hq:quiet s.now s.nodes[k]=false:=by unfold quiet;rw [hu];rfl
     rw [if_neg (by rw [hq];simp),List.append_nil] at e
     simp -implicitDefEqProofs(disch:=first|decide|omega)only[↓aA,aC,aB,simprocAttr,stC,lV,aBC,hg,hu]
     repeat refine And.intro (by omega) ?_
     refine ⟨k+1,?_,by omega,by omega⟩
     rw [e]
     exact .inl rfl
 · have:k=s.nodes.length:=by omega
   subst this
   simp -implicitDefEqProofs(disch:=first|decide|omega)only[↓aA,aC,aB,simprocAttr,stC,List.take_length]
   exact .inl (.inl (.inl rfl))
theorem aMD (a b c d:Int) (h1: -2^62<=a-c/\a-c<=2^62) (h2: -2^62<=b-d/\b-d<=2^62):aT Tryz.prog 68 [.agg [.int .i64 a,.int .i64 b],.agg [.int .i64 c,.int .i64 d]] (.agg [.int .i64 (max (a-c) 0),.int .i64 (max (b-d) 0)]):=by
 unfold aT
 refine aO aOa (by simp) ?_
 unfold aSO
 simp -implicitDefEqProofs(disch:=first|decide|omega)only[↓aA,aC,aB,simprocAttr,bB]
 repeat' first|rfl|apply And.intro
theorem yB (s:Sta) (hl:s.nodes.length<2^62) (hk:s.conts.length<=2^20) (hc:∀ c∈s.conts,okV c.mem c.cores) (hn:∀ n∈s.nodes,0<=n.mem/\n.mem<=2^30/\0<=n.cores/\n.cores<=2^30) (id:Int):aT Tryz.prog 26 [.agg (stC s),.int .i64 id] (.agg [.int .i64 (eY id s).1,.int .i64 (eY id s).2]):=by
 have h1:=kV s hl id
 have h2:=aHG s hk hc id
 have hr:=kM (id:=id) hc
 unfold aT
 refine aO aVt (by simp) ?_
 unfold aXL
 unfold stC at h1 h2
 unfold dT at h1
 refine Yf ?_
 refine aE (aI.of (aM:=false) (h1) (.refl rfl) rfl (by simp)) ?_
 unfold eY
 cases hf:eH id s.nodes with
 | none =>
   rw [Option.getD_none,Option.isSome_none]
   simp -implicitDefEqProofs(disch:=first|decide|omega)only[↓aA,aC,aB,simprocAttr,bB,aN]
 | some n =>
   have hx:=hn n (gG hf).1
   rw [Option.getD_some,Option.isSome_some]
   cases hu:n.up
   · simp -implicitDefEqProofs(disch:=first|decide|omega)only[↓aA,aC,aB,simprocAttr,bB,aN,hu]
   · have h3:=aMD n.mem n.cores (bR id s.conts).1 (bR id s.conts).2 (by omega) (by omega)
     simp -implicitDefEqProofs(disch:=first|decide|omega)only[↓aA,aC,aB,simprocAttr,bB,aN,hu]
     refine bP (h2) rfl rfl ?_
     simp -implicitDefEqProofs(disch:=first|decide|omega)only[↓aA,aC,aB,simprocAttr]
     refine bP (h3) rfl rfl ?_
     simp -implicitDefEqProofs(disch:=first|decide|omega)only[↓aA,aC,aB,simprocAttr]
theorem aHU (s:Sta) (hl:s.nodes.length<2^40) (id:Int):aT Tryz.prog 154 [.agg (stC s),.int .i64 id] (.agg (stC (fU s id))):=by
 have h1:=kV s (by omega) id
 have h2:=fun n=>wB s hl n
 unfold aT
 refine aO aR0 (by simp) ?_
 unfold aPz
 unfold stC at h1
 unfold dT at h1
 refine Yf ?_
 refine aE (aI.of (aM:=false) (h1) (.refl rfl) rfl (by simp)) ?_
 unfold fU
 cases hf:eH id s.nodes with
 | none =>
   rw [Option.getD_none,Option.isSome_none]
   simp -implicitDefEqProofs(disch:=first|decide|omega)only[↓aA,aC,aB,simprocAttr,bB,aN]
 | some n =>
   rw [Option.getD_some,Option.isSome_some]
   unfold stC at h2
   simp -implicitDefEqProofs(disch:=first|decide|omega)only[↓aA,aC,aB,simprocAttr,bB,aN]
   refine aE (aI.of (aM:=false) (h2 _) (.refl rfl) rfl (by simp)) ?_
   simp -implicitDefEqProofs(disch:=first|decide|omega)only[↓aA,aC,aB,simprocAttr]
def hE (s:Sta) (n:Node):Node:=⟨n.id,n.label,n.rack,n.mem,n.cores,s.now,0,true⟩
def jL (s:Sta) (n:Node):Prop:=n.id<0∨n.id>999∨n.label<0∨n.label>=s.labels.length∨n.rack<0∨n.rack>99∨¬ (0<=n.mem/\n.mem<=2^30)∨¬ (0<=n.cores/\n.cores<=2^30)
instance (s:Sta) (n:Node):Decidable (jL s n):=by unfold jL;exact inferInstance
def kA (s:Sta) (n:Node):Sta×Int :=
 if jL s n then (s,1) else match eH n.id s.nodes with
  | some x=>if x.up then (s,7) else (jM s (hE s n),0)
  | none=>if 12<=s.nodes.length then (s,4) else (jM s (hE s n),0)
def sH (q:Sta×Int):AV:=.tup [.agg (stC q.1),.int .i64 q.2]
def pD (s:Sta) (id b:Int):Sta×Int:=match eH id s.nodes with
 | none=>(s,2)
 | some n=>if n.up=false then (s,18) else if b<0 then (s,15) else if b<n.beat then (s,15) else if 1<IntKind.i64.wrap (b-n.beat) then (s,1) else (jM s { n with seen:=s.now,beat:=b },0)
theorem aHV (s:Sta) (hl:s.nodes.length<2^40) (id b:Int):aT Tryz.prog 31 [.agg (stC s),.int .i64 id,.int .i64 b] (sH (pD s id b)):=by
 have h1:=kV s (by omega) id
 have h2:=fun n=>wB s hl n
 unfold aT
 refine aO aVs (by simp) ?_
 unfold aXJ sH
 unfold stC at h1
 unfold dT at h1
 refine Yf ?_
 refine aE (aI.of (aM:=false) (h1) (.refl rfl) rfl (by simp)) ?_
 unfold pD
 cases hf:eH id s.nodes with
 | none =>
   rw [Option.getD_none,Option.isSome_none]
   simp -implicitDefEqProofs(disch:=first|decide|omega)only[↓aA,aC,aB,simprocAttr,bB,aN]
 | some n =>
   rw [Option.getD_some,Option.isSome_some]
   cases hu:n.up
   · simp -implicitDefEqProofs(disch:=first|decide|omega)only[↓aA,aC,aB,simprocAttr,bB,aN,hu]
   · by_cases c1:b<0
     · simp -implicitDefEqProofs(disch:=first|decide|omega)only[↓aA,aC,aB,simprocAttr,bB,aN,hu,c1]
     · by_cases c2:b<n.beat
       · simp -implicitDefEqProofs(disch:=first|decide|omega)only[↓aA,aC,aB,simprocAttr,bB,aN,hu,c1,c2]
       · by_cases c3:1<IntKind.i64.wrap (b-n.beat)
         · simp -implicitDefEqProofs(disch:=first|decide|omega)only[↓aA,aC,aB,simprocAttr,bB,aN,hu,c1,c2,c3]
         · unfold stC at h2
           simp -implicitDefEqProofs(disch:=first|decide|omega)only[↓aA,aC,aB,simprocAttr,bB,aN,hu,c1,c2,c3]
           refine aE (aI.of (aM:=false) (h2 _) (.refl rfl) rfl (by simp)) ?_
           simp -implicitDefEqProofs(disch:=first|decide|omega)only[↓aA,aC,aB,simprocAttr]
theorem aMm (s:Sta) (hl:s.nodes.length<2^40) (hL:s.labels.length<2^40) (n:Node):aT Tryz.prog 18 [.agg (stC s),bO n] (sH (kA s n)):=by
 have h1:=kV s (by omega) n.id
 have h2:=wB s hl (hE s n)
 have hm:=x3 n.mem
 have hc:=x3 n.cores
 unfold aT
 refine aO aVz (by simp) ?_
 unfold aXR sH
 unfold stC at h1
 unfold dT at h1
 by_cases c1:n.id<0
 · have e:kA s n=(s,1):=if_pos (.inl c1)
   rw [e]
   simp -implicitDefEqProofs(disch:=first|decide|omega)only[↓aA,aC,aB,simprocAttr,bB,aN,c1]
 by_cases c2:n.id>999
 · have e:kA s n=(s,1):=if_pos (.inr (.inl c2))
   rw [e]
   simp -implicitDefEqProofs(disch:=first|decide|omega)only[↓aA,aC,aB,simprocAttr,bB,aN,c1,c2]
 by_cases c3:n.label<0
 · have e:kA s n=(s,1):=if_pos (.inr (.inr (.inl c3)))
   rw [e]
   simp -implicitDefEqProofs(disch:=first|decide|omega)only[↓aA,aC,aB,simprocAttr,bB,aN,c1,c2,c3]
 by_cases c4:n.label>=s.labels.length
 · have e:kA s n=(s,1):=if_pos (.inr (.inr (.inr (.inl c4))))
   rw [e]
   simp -implicitDefEqProofs(disch:=first|decide|omega)only[↓aA,aC,aB,simprocAttr,bB,aN,c1,c2,c3,c4]
 by_cases c5:n.rack<0
 · have e:kA s n=(s,1):=if_pos (.inr (.inr (.inr (.inr (.inl c5)))))
   rw [e]
   simp -implicitDefEqProofs(disch:=first|decide|omega)only[↓aA,aC,aB,simprocAttr,bB,aN,c1,c2,c3,c4,c5]
 by_cases c6:n.rack>99
 · have e:kA s n=(s,1):=if_pos (.inr (.inr (.inr (.inr (.inr (.inl c6))))))
   rw [e]
   simp -implicitDefEqProofs(disch:=first|decide|omega)only[↓aA,aC,aB,simprocAttr,bB,aN,c1,c2,c3,c4,c5,c6]
 refine Xi (And.intro c1 (And.intro c2 (And.intro c3 (And.intro c4 (And.intro c5 c6))))) ?_
 by_cases c7:0<=n.mem/\n.mem<=2^30
 case neg =>
  have e:kA s n=(s,1):=if_pos (.inr (.inr (.inr (.inr (.inr (.inr (.inl c7)))))))
  rw [e]
  rw [decide_eq_false c7] at hm
  refine aE (aI.of (aM:=false) (hm) (.refl rfl) rfl (by simp)) ?_
  simp -implicitDefEqProofs(disch:=first|decide|omega)only[↓aA,aC,aB,simprocAttr,bB,aN]
 rw [decide_eq_true c7] at hm
 refine aE (aI.of (aM:=false) (hm) (.refl rfl) rfl (by simp)) ?_
 refine Yi ?_
 by_cases c8:0<=n.cores/\n.cores<=2^30
 case neg =>
  have e:kA s n=(s,1):=if_pos (.inr (.inr (.inr (.inr (.inr (.inr (.inr c8)))))))
  rw [e]
  rw [decide_eq_false c8] at hc
  refine aE (aI.of (aM:=false) (hc) (.refl rfl) rfl (by simp)) ?_
  simp -implicitDefEqProofs(disch:=first|decide|omega)only[↓aA,aC,aB,simprocAttr,bB,aN]
 rw [decide_eq_true c8] at hc
 refine aE (aI.of (aM:=false) (hc) (.refl rfl) rfl (by simp)) ?_
 refine Yi ?_
 refine aE (aI.of (aM:=false) (h1) (.refl rfl) rfl (by simp)) ?_
 have e:kA s n=(match eH n.id s.nodes with
  | some x=>if x.up then (s,7) else (jM s (hE s n),0)
  | none=>if 12<=s.nodes.length then (s,4) else (jM s (hE s n),0)):=if_neg (by rintro (h|h|h|h|h|h|h|h)<;>first|omega|exact h c7|exact h c8)
 rw [e]
 cases hf:eH n.id s.nodes with
 | none =>
   rw [Option.getD_none,Option.isSome_none]
   by_cases c9:12<=s.nodes.length
   · simp -implicitDefEqProofs(disch:=first|decide|omega)only[↓aA,aC,aB,simprocAttr,bB,aN,if_pos c9]
   · simp only [if_neg c9]
     unfold stC hE at h2
     simp -implicitDefEqProofs(disch:=first|decide|omega)only[↓aA,aC,aB,simprocAttr,bB,aN,c9]
     refine aE (aI.of (aM:=false) (h2) (.refl rfl) rfl (by simp)) ?_
     simp -implicitDefEqProofs(disch:=first|decide|omega)only[↓aA,aC,aB,simprocAttr]
     rfl
 | some x =>
   rw [Option.getD_some,Option.isSome_some]
   cases hu:x.up
   · unfold stC hE at h2
     simp -implicitDefEqProofs(disch:=first|decide|omega)only[↓aA,aC,aB,simprocAttr,bB,aN,hu]
     refine aE (aI.of (aM:=false) (h2) (.refl rfl) rfl (by simp)) ?_
     simp -implicitDefEqProofs(disch:=first|decide|omega)only[↓aA,aC,aB,simprocAttr,hu]
     rfl
   · simp -implicitDefEqProofs(disch:=first|decide|omega)only[↓aA,aC,aB,simprocAttr,bB,aN,hu]
def R37:{c:CC // aJ Tryz.prog 37=c}:=⟨_,by conv=>lhs;reduce⟩
def S37:{c:CC // bA Tryz.prog 37 {} R37.1 [([1,1,1,1,1,1,1,1,1,0],(.f [1,3,5,7,9,13,0,2,4,6,8,10,11,14,2012,15,2016,17,18]))]=c}:=⟨_,by conv=>lhs;reduce⟩
def aJH:CC:=(fun (c:CC) (_:(S37.1.aV [1,1,1,1,1,0,1,0,0])=c)=>c) _ (by conv=>lhs;reduce)
def aJI:CC:=(fun (c:CC->CC) (_:(fun a0=>(S37.1.aV [1,1,1,1,1,0,1]).aU [0,0] a0)=c)=>c) _ (by conv=>lhs;reduce) aJH
def aXH:CC:=(fun (c:CC->CC) (_:(fun a0=>(S37.1).aU [1,1,1,1,1,0,1] a0)=c)=>c) _ (by conv=>lhs;reduce) aJI
theorem aVr:aX Tryz.prog 37 aXH [.ce 4 41 10 true,.tm 5] 110:=aX.of Tryz.f37 Tryz.func37 rfl ⟨by kernel_rfl,trivial⟩
def R40:{c:CC // aJ Tryz.prog 40=c}:=⟨_,by conv=>lhs;reduce⟩
def S40:{c:CC // bA Tryz.prog 40 {} R40.1 []=c}:=⟨_,by conv=>lhs;reduce⟩
def aJF:CC:=(fun (c:CC) (_:(S40.1.aV [1,0,1,0,0])=c)=>c) _ (by conv=>lhs;reduce)
def aJG:CC:=(fun (c:CC->CC) (_:(fun a0=>(S40.1.aV [1,0,1]).aU [0,0] a0)=c)=>c) _ (by conv=>lhs;reduce) aJF
def aXG:CC:=(fun (c:CC->CC) (_:(fun a0=>(S40.1).aU [1,0,1] a0)=c)=>c) _ (by conv=>lhs;reduce) aJG
theorem aVq:aX Tryz.prog 40 aXG [.ce 4 64 14 true,.tm 5] 28:=aX.of Tryz.f40 Tryz.func40 rfl ⟨by kernel_rfl,trivial⟩
def R42:{c:CC // aJ Tryz.prog 42=c}:=⟨_,by conv=>lhs;reduce⟩
def S42:{c:CC // bA Tryz.prog 42 {} R42.1 []=c}:=⟨_,by conv=>lhs;reduce⟩
def aXF:CC:=(fun (c:CC) (_:(S42.1)=c)=>c) _ (by conv=>lhs;reduce)
theorem aYX:aZ Tryz.prog 42 aXF [2] 11:=aZ.of Tryz.f42 Tryz.func42 rfl
def R44:{c:CC // aJ Tryz.prog 44=c}:=⟨_,by conv=>lhs;reduce⟩
def S44:{c:CC // bA Tryz.prog 44 {} R44.1 []=c}:=⟨_,by conv=>lhs;reduce⟩
def aJD:CC:=(fun (c:CC) (_:(S44.1.aV [1,1,0,0,0])=c)=>c) _ (by conv=>lhs;reduce)
def aJE:CC:=(fun (c:CC->CC) (_:(fun a0=>(S44.1.aV [1,1,0]).aU [0,0] a0)=c)=>c) _ (by conv=>lhs;reduce) aJD
def aXE:CC:=(fun (c:CC->CC) (_:(fun a0=>(S44.1).aU [1,1,0] a0)=c)=>c) _ (by conv=>lhs;reduce) aJE
theorem aVp:aX Tryz.prog 44 aXE [.ce 4 41 10 true] 61:=aX.of Tryz.f44 Tryz.func44 rfl ⟨by kernel_rfl,trivial⟩
def R47:{c:CC // aJ Tryz.prog 47=c}:=⟨_,by conv=>lhs;reduce⟩
def S47:{c:CC // bA Tryz.prog 47 {} R47.1 []=c}:=⟨_,by conv=>lhs;reduce⟩
def aJB:CC:=(fun (c:CC) (_:(S47.1.aV [1,1,0,1,0,0])=c)=>c) _ (by conv=>lhs;reduce)
def aJC:CC:=(fun (c:CC->CC) (_:(fun a0=>(S47.1.aV [1,1,0,1]).aU [0,0] a0)=c)=>c) _ (by conv=>lhs;reduce) aJB
def aXD:CC:=(fun (c:CC->CC) (_:(fun a0=>(S47.1).aU [1,1,0,1] a0)=c)=>c) _ (by conv=>lhs;reduce) aJC
theorem aYW:aZ Tryz.prog 47 aXD [2] 41:=aZ.of Tryz.f47 Tryz.func47 rfl
def R51:{c:CC // aJ Tryz.prog 51=c}:=⟨_,by conv=>lhs;reduce⟩
def S51:{c:CC // bA Tryz.prog 51 {} R51.1 []=c}:=⟨_,by conv=>lhs;reduce⟩
def aXC:CC:=(fun (c:CC) (_:(S51.1)=c)=>c) _ (by conv=>lhs;reduce)
theorem aVo:aX Tryz.prog 51 aXC [.ce 6 41 10 true,.tm 7] 38:=aX.of Tryz.f51 Tryz.func51 rfl ⟨by kernel_rfl,trivial⟩
def R52:{c:CC // aJ Tryz.prog 52=c}:=⟨_,by conv=>lhs;reduce⟩
def S52:{c:CC // bA Tryz.prog 52 { fz:=[(false,84,[83])] } R52.1 [([1,0,1,0,0,1,0,0,0],(.f [1,2,3,1004,0,9,2005,6,7,8,10,11])),([1,0,1,0,0,1,0,0,1,1,1,0,1,0,1,1,0],(.p [0,2] (.f [1,3,4,5]) (.f [3,1,4,5]))),([1,0,1,0,0,1,0,0,1,1,1,0,1,0,1,1,1,0],(.f [3,0,1,4,2002,2005,6,7,8,9])),([1,0,1,0,0,1,0,0,1,1,1,1,1,1,1,0,1,0],(.p [1,4,2] (.p [0] (.f [3,5,6,7,8,9]) (.p [5] (.f [3,6,7,8,9]) (.f [6,3,7,8,9]))) (.p [5] (.p [0] (.f [3,6,7,8,9]) (.f [6,3,7,8,9])) (.f [6,0,3,7,8,9]))))]=c}:=⟨_,by conv=>lhs;reduce⟩
def aJz:CC:=(fun (c:CC) (_:(S52.1.aV [1,0,1,0,0])=c)=>c) _ (by conv=>lhs;reduce)
def aJA:CC:=(fun (c:CC->CC) (_:(fun a0=>(S52.1.aV [1,0,1]).aU [0,0] a0)=c)=>c) _ (by conv=>lhs;reduce) aJz
def aXB:CC:=(fun (c:CC->CC) (_:(fun a0=>(S52.1).aU [1,0,1] a0)=c)=>c) _ (by conv=>lhs;reduce) aJA
theorem aVn:aX Tryz.prog 52 aXB [.ce 4 41 10 true] 86:=aX.of Tryz.f52 Tryz.func52 rfl ⟨by kernel_rfl,trivial⟩
def R80:{c:CC // aJ Tryz.prog 80=c}:=⟨_,by conv=>lhs;reduce⟩
def S80:{c:CC // bA Tryz.prog 80 {} R80.1 []=c}:=⟨_,by conv=>lhs;reduce⟩
def aXq:CC:=(fun (c:CC) (_:(S80.1)=c)=>c) _ (by conv=>lhs;reduce)
theorem aYR:aZ Tryz.prog 80 aXq [2] 9:=aZ.of Tryz.f80 Tryz.func80 rfl
def R81:{c:CC // aJ Tryz.prog 81=c}:=⟨_,by conv=>lhs;reduce⟩
def S81:{c:CC // bA Tryz.prog 81 {} R81.1 []=c}:=⟨_,by conv=>lhs;reduce⟩
def aJe:CC:=(fun (c:CC) (_:(S81.1.aV [1,1,1,0,1,0,0])=c)=>c) _ (by conv=>lhs;reduce)
def aJf:CC:=(fun (c:CC->CC) (_:(fun a0=>(S81.1.aV [1,1,1,0,1]).aU [0,0] a0)=c)=>c) _ (by conv=>lhs;reduce) aJe
def aXp:CC:=(fun (c:CC->CC) (_:(fun a0=>(S81.1).aU [1,1,1,0,1] a0)=c)=>c) _ (by conv=>lhs;reduce) aJf
theorem aVg:aX Tryz.prog 81 aXp [.ce 2 41 10 true] 35:=aX.of Tryz.f81 Tryz.func81 rfl ⟨by kernel_rfl,trivial⟩
def R82:{c:CC // aJ Tryz.prog 82=c}:=⟨_,by conv=>lhs;reduce⟩
def S82:{c:CC // bA Tryz.prog 82 {} R82.1 []=c}:=⟨_,by conv=>lhs;reduce⟩
def aXo:CC:=(fun (c:CC) (_:(S82.1)=c)=>c) _ (by conv=>lhs;reduce)
theorem aYQ:aZ Tryz.prog 82 aXo [2] 7:=aZ.of Tryz.f82 Tryz.func82 rfl
def R91:{c:CC // aJ Tryz.prog 91=c}:=⟨_,by conv=>lhs;reduce⟩
def S91:{c:CC // bA Tryz.prog 91 {} R91.1 []=c}:=⟨_,by conv=>lhs;reduce⟩
def aJb:CC:=(fun (c:CC) (_:(S91.1.aV [1,1,1,1,1,0,1,0,0])=c)=>c) _ (by conv=>lhs;reduce)
def aJd:CC:=(fun (c:CC->CC) (_:(fun a0=>(S91.1.aV [1,1,1,1,1,0,1]).aU [0,0] a0)=c)=>c) _ (by conv=>lhs;reduce) aJb
def aJa:CC:=(fun (c:CC) (_:(S91.1.aV [1,1,1,1,0,1,0,0])=c)=>c) _ (by conv=>lhs;reduce)
def aJc:CC:=(fun (c:CC->CC) (_:(fun a0=>(S91.1.aV [1,1,1,1,0,1]).aU [0,0] a0)=c)=>c) _ (by conv=>lhs;reduce) aJa
def aXn:CC:=(fun (c:CC->CC->CC) (_:(fun a0 a1=>((S91.1).aU [1,1,1,1,0,1] a0).aU [1,1,1,1,1,0,1] a1)=c)=>c) _ (by conv=>lhs;reduce) aJc aJd
theorem aVf:aX Tryz.prog 91 aXn [.ce 4 41 10 true,.tm 5] 72:=aX.of Tryz.f91 Tryz.func91 rfl ⟨by kernel_rfl,trivial⟩
def R92:{c:CC // aJ Tryz.prog 92=c}:=⟨_,by conv=>lhs;reduce⟩
def S92:{c:CC // bA Tryz.prog 92 {} R92.1 []=c}:=⟨_,by conv=>lhs;reduce⟩
def aI8:CC:=(fun (c:CC) (_:(S92.1.aV [1,0,1,0,0])=c)=>c) _ (by conv=>lhs;reduce)
def aI9:CC:=(fun (c:CC->CC) (_:(fun a0=>(S92.1.aV [1,0,1]).aU [0,0] a0)=c)=>c) _ (by conv=>lhs;reduce) aI8
def aXm:CC:=(fun (c:CC->CC) (_:(fun a0=>(S92.1).aU [1,0,1] a0)=c)=>c) _ (by conv=>lhs;reduce) aI9
theorem aVe:aX Tryz.prog 92 aXm [.ce 4 82 9 true,.tm 5] 28:=aX.of Tryz.f92 Tryz.func92 rfl ⟨by kernel_rfl,trivial⟩
def R93:{c:CC // aJ Tryz.prog 93=c}:=⟨_,by conv=>lhs;reduce⟩
def S93:{c:CC // bA Tryz.prog 93 {} R93.1 []=c}:=⟨_,by conv=>lhs;reduce⟩
def aI6:CC:=(fun (c:CC) (_:(S93.1.aV [1,1,0,1,0,0])=c)=>c) _ (by conv=>lhs;reduce)
def aI7:CC:=(fun (c:CC->CC) (_:(fun a0=>(S93.1.aV [1,1,0,1]).aU [0,0] a0)=c)=>c) _ (by conv=>lhs;reduce) aI6
def aXl:CC:=(fun (c:CC->CC) (_:(fun a0=>(S93.1).aU [1,1,0,1] a0)=c)=>c) _ (by conv=>lhs;reduce) aI7
theorem aVd:aX Tryz.prog 93 aXl [.ce 4 41 10 true] 33:=aX.of Tryz.f93 Tryz.func93 rfl ⟨by kernel_rfl,trivial⟩
def R94:{c:CC // aJ Tryz.prog 94=c}:=⟨_,by conv=>lhs;reduce⟩
def S94:{c:CC // bA Tryz.prog 94 {} R94.1 []=c}:=⟨_,by conv=>lhs;reduce⟩
def aI4:CC:=(fun (c:CC) (_:(S94.1.aV [1,1,0,1,0,0])=c)=>c) _ (by conv=>lhs;reduce)
def aI5:CC:=(fun (c:CC->CC) (_:(fun a0=>(S94.1.aV [1,1,0,1]).aU [0,0] a0)=c)=>c) _ (by conv=>lhs;reduce) aI4
def aXk:CC:=(fun (c:CC->CC) (_:(fun a0=>(S94.1).aU [1,1,0,1] a0)=c)=>c) _ (by conv=>lhs;reduce) aI5
theorem aYP:aZ Tryz.prog 94 aXk [4,5] 33:=aZ.of Tryz.f94 Tryz.func94 rfl
def cI:bD:=⟨0,0,0,0,0,0,0,false,0⟩
theorem gV (s:Sta) (hl:s.apps.length<2^62) (id:Int):aT Tryz.prog 40 [.agg (stC s),.int .i64 id] (dT APP gI (dP id s.apps)):=by
 refine aT.wk3 (aO aVq (by simp) ?_)
 unfold aXG dT dP
 refine Yf ?_
 unfold aJG
 refine Ya ?_
 refine aF (σ:=Nat) (fun k=>⟨[(1,.int .i64 id),(2,.ref 0 0 0),(4,.ref 1 0 0),(6,.int .i64 (k:Int))],[.box (stC s),.box [.int .i64 0,.int .i64 0,.str [],.int .i64 0,.int .i64 0,.int .i64 0,.int .i64 0,.aD,.int .i64 0,.int .i64 0,.aD,.aD,.aD,.aD]]⟩) (fun k=>k<=s.apps.length/\s.apps.find? (fun a=>a.id==id)=(s.apps.drop k).find? (fun a=>a.id==id)) (fun k=>s.apps.length-k) 0 (.inl rfl) ⟨by omega,by simp⟩ ?_
 rintro k ⟨hk,hf⟩
 unfold aJF
 by_cases hki:k<s.apps.length
 · have hg:s.apps.getD k default=s.apps[k]:=by simp [hki]
   rw [List.drop_eq_getElem_cons hki,List.find?_cons] at hf
   by_cases hp:s.apps[k].id=id
   · rw [beq_iff_eq.2 hp] at hf
     refine Xh (And.intro hg (And.intro hf hp)) ?_
     exact ⟨by omega,by omega,by omega,by omega,.inl (.inl (.inl rfl))⟩
   · rw [beq_eq_false_iff_ne.2 hp] at hf
     refine Xh (And.intro hg hp) ?_
     exact ⟨by omega,by omega,k+1,.inl rfl,⟨by omega,hf⟩,by omega⟩
 · have:k=s.apps.length:=by omega
   subst this
   rw [List.drop_length] at hf
   simp -implicitDefEqProofs(disch:=first|decide|omega)only[↓aA,aC,aB,simprocAttr,bB,a9,hf]
   repeat refine And.intro (by rfl) ?_
   exact .inr ⟨_,_,rfl,rfl,.inr ⟨_,_,rfl,rfl,by simp [WkL,Wk1,bU,bI,gI]⟩,.inl (.inl rfl),trivial⟩
theorem kY (s:Sta) (hl:s.conts.length<2^62) (id:Int):aT Tryz.prog 92 [.agg (stC s),.int .i64 id] (dT bY cI (gR id s.conts)):=by
 unfold aT
 refine aO aVe (by simp) ?_
 unfold aXm dT gR
 refine Yf ?_
 unfold aI9
 refine Ya ?_
 refine aF (σ:=Nat) (fun k=>⟨[(1,.int .i64 id),(2,.ref 0 0 0),(4,.ref 1 0 0),(6,.int .i64 (k:Int))],[.box (stC s),.box (cE cI)]⟩) (fun k=>k<=s.conts.length/\s.conts.find? (fun a=>a.id==id)=(s.conts.drop k).find? (fun a=>a.id==id)) (fun k=>s.conts.length-k) 0 (.inl rfl) ⟨by omega,by simp⟩ ?_
 rintro k ⟨hk,hf⟩
 unfold aI8
 by_cases hki:k<s.conts.length
 · have hg:s.conts.getD k default=s.conts[k]:=by simp [hki]
   rw [List.drop_eq_getElem_cons hki,List.find?_cons] at hf
   by_cases hp:s.conts[k].id=id
   · rw [beq_iff_eq.2 hp] at hf
     refine Xc (And.intro hg (And.intro hf hp)) ?_
     exact ⟨by omega,by omega,by omega,by omega,rfl⟩
   · rw [beq_eq_false_iff_ne.2 hp] at hf
     refine Xc (And.intro hg hp) ?_
     exact ⟨by omega,by omega,k+1,.inl rfl,⟨by omega,hf⟩,by omega⟩
 · have:k=s.conts.length:=by omega
   subst this
   rw [List.drop_length] at hf
   simp -implicitDefEqProofs(disch:=first|decide|omega)only[↓aA,aC,aB,simprocAttr,bB,aY,hf]
   repeat first|exact rfl|refine And.intro (by rfl) ?_
theorem gB (s:Sta) (hl:s.apps.length<2^38) (n:App):aT Tryz.prog 44 [.agg (stC s),APP n] (.agg (stC (iJ s n))):=by
 unfold aT
 refine aO aVp (by simp) ?_
 unfold aXE
 simp -implicitDefEqProofs(disch:=first|decide|omega)only[↓aA,aC,aB,simprocAttr,stC,aGa]
 unfold aJE
 refine Ya ?_
 refine aF (σ:=Nat) (fun k=>⟨[(2,.ref 0 0 0),(3,.ref 1 0 0),(4,.ref 2 0 0),(5,.int .i64 (k:Int))],[.box (stC s),.box (bI n),.box [.aD,.aD,.aD,.aD,.aD,.aD,.aD,.int .i64 0,.int .i64 0,.int .i64 0]]⟩) (fun k=>k<=s.apps.length/\∀ j,(hj:j<k)->(h:j<s.apps.length)->s.apps[j].id<n.id) (fun k=>s.apps.length-k) 0 (.inl rfl) ⟨by omega,fun j hj=>by omega⟩ ?_
 rintro k ⟨hk,hf⟩
 unfold aJD
 by_cases hki:k<s.apps.length
 · have hg:s.apps.getD k default=s.apps[k]:=by simp [hki]
   by_cases hp:s.apps[k].id<n.id
   · simp -implicitDefEqProofs(disch:=first|decide|omega)only[↓aA,aC,aB,simprocAttr,bB,aGa,hg,hp]
     exact ⟨by omega,by omega,k+1,.inl rfl,⟨by omega,fun j hj h=>by
      by_cases hjk:j=k
      · subst hjk;exact hp
      · exact hf j (by omega) h⟩,by omega⟩
   · have e:=lI (key:=App.id) (n:=n) hk (fun j hj=>hf j hj (by omega)) (fun _=>hp)
     rw [dif_pos hki] at e
     by_cases hq:s.apps[k].id=n.id
     · rw [if_pos hq] at e
       simp -implicitDefEqProofs(disch:=first|decide|omega)only[↓aA,aC,aB,simprocAttr,bB,aGa,hg,hp,hq]
       unfold iJ
       simp only [e]
       repeat' first|omega|apply And.intro
       simp [List.take_of_length_le,Nat.min_eq_left hk]
       exact List.take_of_length_le (by simp;omega)
     · rw [if_neg hq] at e
       simp -implicitDefEqProofs(disch:=first|decide|omega)only[↓aA,aC,aB,simprocAttr,bB,aGa,hg,hp,hq]
       unfold iJ
       simp only [e]
       repeat' first|omega|apply And.intro
       simp [List.take_of_length_le,Nat.min_eq_left hk]
       exact List.take_of_length_le (by simp;omega)
 · have e:=lI (key:=App.id) (n:=n) hk (fun j hj=>hf j hj (by omega)) (fun h=>absurd h hki)
   rw [dif_neg hki] at e
   have:k=s.apps.length:=by omega
   subst this
   simp -implicitDefEqProofs(disch:=first|decide|omega)only[↓aA,aC,aB,simprocAttr,bB,aGa]
   unfold iJ
   simp only [e]
   repeat' first|omega|apply And.intro
   simp [List.take_of_length_le,Nat.min_eq_left hk]
theorem fX (a:App):aT Tryz.prog 42 [APP a] (.bool (live a)):=by
 unfold aT
 refine aK aYX (by simp) ?_
 unfold aXF live
 by_cases h:a.state=1
 · refine Xh h ?_
   rfl
 · by_cases h2:a.state=2
   · refine Xh (And.intro h h2) ?_
     rfl
   · refine Xh (And.intro h h2) ?_
     rfl
theorem aEL (s:Sta) (hl:s.conts.length<2^38) (id:Int):aT Tryz.prog 93 [.agg (stC s),.int .i64 id] (.agg (stC (mR s id))):=by
 unfold aT
 refine aO aVd (by simp) ?_
 unfold aXl
 refine Yf ?_
 unfold aI7
 refine Ya ?_
 refine aF (σ:=Nat) (fun k=>⟨[(1,.int .i64 id),(2,.ref 0 0 0),(4,.ref 1 0 0),(5,.own 2 9 0 ((s.conts.take k).filter fun c=>c.id !=id).length),(6,.int .i64 (k:Int))],[.box (stC s),.box [.aD,.aD,.aD,.aD,.aD,.aD,.aD,.int .i64 0,.int .i64 0,.int .i64 0],.arr 9 (((s.conts.take k).filter fun c=>c.id !=id).map bY)]⟩) (fun k=>k<=s.conts.length) (fun k=>s.conts.length-k) 0 ?_ (by omega) ?_
 · exact Sub.ofS [some 0,some 1,none]
 rintro k hk
 unfold aI6
 have hfl:=dA (p:=fun c:bD=>c.id !=id) (l:=s.conts) (k:=k)
 by_cases hki:k<s.conts.length
 · have hg:s.conts.getD k default=s.conts[k]:=by simp [hki]
   have e:=cH (p:=fun c:bD=>c.id !=id) hki
   by_cases hp:s.conts[k].id=id
   · rw [if_neg (by simp [hp]),List.append_nil] at e
     simp -implicitDefEqProofs(disch:=first|decide|omega)only[↓aA,aC,aB,simprocAttr,bB,aY,hg,hp]
     repeat refine And.intro (by omega) ?_
     refine ⟨k+1,?_,by omega,by omega⟩
     rw [e]
     exact .inl rfl
   · rw [if_pos (by simp [hp])] at e
     generalize hout:(s.conts.take k).filter (fun c:bD=>c.id !=id)=out at e hfl ⊢
     simp -implicitDefEqProofs(disch:=first|decide|omega)only[↓aA,aC,aB,simprocAttr,bB,aY,hg,hp]
     repeat refine And.intro (by omega) ?_
     refine ⟨k+1,?_,by omega,by omega⟩
     simp only [e,List.map_append,List.map_cons,List.map_nil,List.length_append,List.length_cons,List.length_nil]
     exact Sub.ofS [some 0,some 1,some 4]
 · have:k=s.conts.length:=by omega
   subst this
   refine Yj ?_
   rfl
end Go.Proofs.YtakemdamegfcfaaGreat
