/- How End computes. No condition. -/
import Derived.Test.YtakemdamegfcfaaGreatProg
import Derived.KernelRfl
import Derived.Test.YtakemdamegfcfaaGreatT6
import Derived.Test.YtakemdamegfcfaaGreatT10
import Derived.Test.YtakemdamegfcfaaGreatU37
import Derived.Test.YtakemdamegfcfaaGreatU46
import Derived.Test.YtakemdamegfcfaaGreatT35
set_option linter.unusedSimpArgs false
set_option linter.unusedVariables false
set_option maxHeartbeats 16000000
set_option maxRecDepth 100000
namespace Go.Proofs.YtakemdamegfcfaaGreat
open Go Go.Ab
def R10:{c:CC // aJ Tryz.prog 10=c}:=⟨_,by conv=>lhs;reduce⟩
def S10:{c:CC // bA Tryz.prog 10 { fs:=false } R10.1 [([1,1,1,1,1,0],(.p [0,2,3,1,4,5] (.f [2006,7,1008,9,10]) (.f [9,2006,7,8,10]))),([1,1,1,1,1,1,1,1,1,1,0,1,0,0,1,0,0,0],(.f [1,3,0,2,4,5,6,11,2007,8,9,10,12,13]))]=c}:=⟨_,by conv=>lhs;reduce⟩
def bH9:CC:=(fun (c:CC) (_:(S10.1.aV [1,1,1,1,1,1,1,1,1,1,1,1])=c)=>c) _ (by conv=>lhs;reduce)
def bTM:CC:=(fun (c:CC) (_:(S10.1.aV [1,1,1,1,1,1,1,1,1,1,1,0,1,0,0])=c)=>c) _ (by conv=>lhs;reduce)
def bTO:CC:=(fun (c:CC->CC) (_:(fun a0=>(S10.1.aV [1,1,1,1,1,1,1,1,1,1,1,0,1]).aU [0,0] a0)=c)=>c) _ (by conv=>lhs;reduce) bTM
def bTL:CC:=(fun (c:CC) (_:(S10.1.aV [1,1,1,1,1,1,1,1,1,1,0,1,0,0])=c)=>c) _ (by conv=>lhs;reduce)
def bTN:CC:=(fun (c:CC->CC) (_:(fun a0=>(S10.1.aV [1,1,1,1,1,1,1,1,1,1,0,1]).aU [0,0] a0)=c)=>c) _ (by conv=>lhs;reduce) bTL
def bGW:CC:=(fun (c:CC->CC->CC->CC) (_:(fun a0 a1 a2=>(((S10.1.aV [1,1,1,1,1,1]).aU [1,1,1,1,0,1] a0).aU [1,1,1,1,1,0,1] a1).aU [1,1,1,1,1,1] a2)=c)=>c) _ (by conv=>lhs;reduce) bTN bTO bH9
def b9F:CC:=(fun (c:CC->CC) (_:(fun a0=>(S10.1).aU [1,1,1,1,1,1] a0)=c)=>c) _ (by conv=>lhs;reduce) bGW
theorem cA0:aZ Tryz.prog 10 b9F [6] 175:=aZ.of Tryz.f10 Tryz.func10 rfl
def R49:{c:CC // aJ Tryz.prog 49=c}:=⟨_,by conv=>lhs;reduce⟩
def S49:{c:CC // bA Tryz.prog 49 { fs:=false } R49.1 []=c}:=⟨_,by conv=>lhs;reduce⟩
def bTg:CC:=(fun (c:CC) (_:(S49.1.aV [1,0,1,0,0])=c)=>c) _ (by conv=>lhs;reduce)
def bTh:CC:=(fun (c:CC->CC) (_:(fun a0=>(S49.1.aV [1,0,1]).aU [0,0] a0)=c)=>c) _ (by conv=>lhs;reduce) bTg
def b9j:CC:=(fun (c:CC->CC) (_:(fun a0=>(S49.1).aU [1,0,1] a0)=c)=>c) _ (by conv=>lhs;reduce) bTh
theorem b6w:aX Tryz.prog 49 b9j [.ce 4 82 9 true,.tm 5] 28:=aX.of Tryz.f49 Tryz.func49 rfl ⟨by kernel_rfl,trivial⟩
theorem b3A (s:Sta) (hl:s.conts.length<2^62) (id:Int):aT Tryz.prog 49 [.agg (stC s),.int .i64 id] (dT bY cI (gR id s.conts)):=by
 unfold aT
 refine aO b6w (by simp) ?_
 unfold b9j dT gR
 simp -implicitDefEqProofs(disch:=first|decide|omega)only[↓aA,aC,aB,simprocAttr,x8,stC]
 unfold bTh
 refine Wa ?_
 refine aF (σ:=Nat) (fun k=>⟨[(1,.int .i64 id),(2,.ref 0 0 0),(4,.ref 1 0 0),(6,.int .i64 (k:Int))],[.box (stC s),.box (cE cI)]⟩) (fun k=>k<=s.conts.length/\s.conts.find? (fun a=>a.id==id)=(s.conts.drop k).find? (fun a=>a.id==id)) (fun k=>s.conts.length-k) 0 (.inl rfl) ⟨by omega,by simp⟩ ?_
 rintro k ⟨hk,hf⟩
 unfold bTg
 by_cases hki:k<s.conts.length
 · have hg:s.conts.getD k default=s.conts[k]:=by simp [hki]
   rw [List.drop_eq_getElem_cons hki,List.find?_cons] at hf
   by_cases hp:s.conts[k].id=id
   · rw [beq_iff_eq.2 hp] at hf
     simp -implicitDefEqProofs(disch:=first|decide|omega)only[↓aA,aC,aB,simprocAttr,x8,bB,aY,hg,hf,hp]
     exact ⟨by omega,by omega,by omega,by omega,rfl⟩
   · rw [beq_eq_false_iff_ne.2 hp] at hf
     simp -implicitDefEqProofs(disch:=first|decide|omega)only[↓aA,aC,aB,simprocAttr,x8,bB,aY,hg,hp]
     exact ⟨by omega,by omega,k+1,.inl rfl,⟨by omega,hf⟩,by omega⟩
 · have:k=s.conts.length:=by omega
   subst this
   rw [List.drop_length] at hf
   simp -implicitDefEqProofs(disch:=first|decide|omega)only[↓aA,aC,aB,simprocAttr,x8,bB,aY,hf]
   repeat first|exact rfl|refine And.intro (by rfl) ?_
theorem bOV {l:List bD} (hs:Srt bD.id l) {c:bD} (hc:c∈l) (p:Int):(gR c.id (l.filter (a8s p))).isSome=a8s p c:=by
 cases h:a8s p c
 · have:gR c.id (l.filter (a8s p))=none:=List.find?_eq_none.2 fun d hd he=>by
    have h1:=List.mem_filter.1 hd
    have h2:d.id=c.id:=by simpa using he
    rw [gL hs h1.1 hc h2,h] at h1
    exact absurd h1.2 (by simp)
   rw [this]
   rfl
 · unfold gR
   rw [List.find?_isSome]
   exact ⟨c,List.mem_filter.2 ⟨hc,h⟩,by simp⟩
theorem bW6 {l:List bD} {k:Nat} (hk:k<l.length) {p:Int} (h:bBF p l[k]=true):(a7F p (l.take k)).length<(a7F p l).length/\(a7F p l).getD (a7F p (l.take k)).length default=l[k].id:=by
 have e:a7F p l=a7F p (l.take k)++l[k].id :: a7F p (l.drop (k+1)):=by
  conv=>lhs;rw [<- List.take_append_drop k l]
  unfold a7F
  rw [List.filter_append,List.map_append,List.drop_eq_getElem_cons hk,List.filter_cons,if_pos h]
  rfl
 rw [e]
 constructor
 · simp
 · simp
theorem bKh {B:Nat} {s:Sta} (h:II B s) (hB:B<=2^39) (id st:Int):aT Tryz.prog 48 [.agg (stC s),.int .i64 id,.int .i64 st] (.tup [.agg (stC (wN s id st)),.sl false 1 ((aAM s id).map I64)]):=by
 have K:=okS h hB
 have h1:=K.st.a
 have h2:=K.st.k
 have h3:=K.st.l
 exact bVr s (a2n K) (by omega) (by omega) (by omega) h.aS id st
theorem bYq {B:Nat} {t:Sta} (h:II B t) (hB:B<=2^39):aT Tryz.prog 19 [.agg (stC t),.agg (stC t)] (.bool true):=a1U (okS h hB) t rfl rfl (by omega) rfl rfl rfl rfl
theorem bXe {s:Sta} {B:Nat} (h:II B s) (hB:B<=2^39) (k:Nat) (hk:k<s.apps.length) (st:Int) (x:Scr) (R:bX) (h2:R.get 2= .int .i64 st) (h7:R.get 7= .ref 1 0 0) (h8:R.get 8= .ref 2 0 0):aw Tryz.prog bGW (aG1 [6] fun y _=>y= .bool true) ⟨R,[.box [.int .i64 x.shape,.sl true 1 (x.ns.map I64),.sl true 5 (x.acts.map ACT)],.box (stC s),.box (bI s.apps[k])]⟩:=by
 have K:=okS h hB
 have rg:=gO st 2 (by omega)
 have c35:=a6u st 2 (by omega) (by omega)
 generalize inF st 2=q at rg c35
 have hq:3+q=3∨3+q=4:=by omega
 have hme:s.apps[k]∈s.apps:=List.getElem_mem hk
 have cE:=bKh h hB s.apps[k].id (3+q)
 have cL:=a2m s.apps[k]
 have sm:=bYq h hB
 unfold bGW
 refine Vh (And.intro h2 (And.intro h7 h8)) ?_
 refine aE (aI.of (aM:=false) (c35) (.refl rfl) rfl (by simp)) ?_
 simp -implicitDefEqProofs(disch:=first|decide|omega)only[↓aA,aC,aB,simprocAttr,x8,bB,a9,h2,h7,h8]
 repeat refine And.intro (by omega) ?_
 refine aE (aI.of (aM:=false) (cE) (.refl rfl) rfl (by simp)) ?_
 refine Vh (And.intro h2 (And.intro h7 h8)) ?_
 refine aE (aI.of (aM:=false) (cL) (.refl rfl) rfl (by simp)) ?_
 cases hlv:live s.apps[k]
 · obtain ⟨e1,e2⟩:=bGe (s:=s) (id:=s.apps[k].id) (3+q) (.inr ⟨_,tI h.aS hme,hlv⟩)
   rw [e1,e2]
   refine Vh (And.intro h2 (And.intro h7 h8)) ?_
   refine aE (aI.of (aM:=false) (sm) (.refl rfl) rfl (by simp)) ?_
   simp -implicitDefEqProofs(disch:=first|decide|omega)only[↓aA,aC,aB,simprocAttr,x8,bB,a9,h2,h7,h8]
 have ht:=aIC h s.apps[k].id (3+q) hq
 obtain ⟨f1,f2,f3,f4,f5,f6⟩:=b8U h hme hlv (3+q) hq
 have f7:=(bGd h.aS hk hlv (3+q)).1
 have f2:aAM s s.apps[k].id=a7F s.apps[k].id s.conts:=f2
 have hcs:(wN s s.apps[k].id (3+q)).conts=s.conts.filter (a8s s.apps[k].id):=by rw [f7]
 have hss:(wN s s.apps[k].id (3+q)).slots=s.slots.filter (a9i s.apps[k].id):=by rw [f7]
 clear f1 f7 cE
 rw [f2]
 clear f2
 generalize wN s s.apps[k].id (3+q)=t at *
 generalize s.apps[k]=a at *
 have Kt:=okS ht hB
 have k49:=fun id=>b3A t (by have:=Kt.st.k;omega) id
 unfold dT at k49
 have hgl:(a7F a.id s.conts).length<=s.conts.length:=by
  unfold a7F
  rw [List.length_map]
  exact List.length_filter_le _ _
 have hck:=K.st.k
 have htf:(true==false)=false:=rfl
 have hft:(false==true)=false:=rfl
 refine Vh (And.intro h2 (And.intro h7 h8)) ?_
 unfold bTN
 refine Wa ?_
 refine aF (σ:=Nat) (fun j=>⟨[(2,.int .i64 (3+q)),(7,.ref 1 0 0),(8,.ref 2 0 0),(9,.ref 3 0 0),(10,.sl false 1 ((a7F a.id s.conts).map I64)),(11,.int .i64 ((a7F a.id (s.conts.take j)).length:Int)),(12,.int .i64 (j:Int))],[.box [.int .i64 x.shape,.sl true 1 (x.ns.map I64),.sl true 5 (x.acts.map ACT)],.box (stC s),.box (bI a),.box (stC t)]⟩) (fun j=>j<=s.conts.length) (fun j=>s.conts.length-j) 0 (.inl rfl) (by omega) ?_
 rintro j hj
 unfold bTL
 by_cases hjc:j<s.conts.length
 · have hg:s.conts.getD j default=s.conts[j]:=by simp [hjc]
   have hfk:=bOV h.cS (List.getElem_mem hjc) a.id
   rw [<- hcs] at hfk
   have hga:=bW6 hjc (p:=a.id)
   have hfg:a7F a.id (s.conts.take (j+1))=a7F a.id (s.conts.take j)++if bBF a.id s.conts[j]=true then [s.conts[j].id] else []:=by
    unfold a7F
    rw [cH hjc,List.map_append]
    split<;>rfl
   have hgj:(a7F a.id (s.conts.take j)).length<=j:=by
    unfold a7F
    rw [List.length_map]
    exact Nat.le_trans (List.length_filter_le _ _) (by simp;omega)
   generalize s.conts[j]=c at hg hfk hga hfg
   generalize a7F a.id (s.conts.take j)=g at hga hfg hgj ⊢
   generalize a7F a.id s.conts=GL at hga hgl ⊢
   have k49:=k49 c.id
   generalize (gR c.id t.conts).getD cI=cz at k49
   cases hp:bBF a.id c
   · have hn:a8s a.id c=true:=by simp [a8s,hp]
     rw [hn] at hfk
     rw [hfk] at k49
     rw [hp,if_neg (by simp),List.append_nil] at hfg
     have hp2:(c.app==a.id)=false:=hp
     simp -implicitDefEqProofs(disch:=first|decide|omega)only[↓aA,aC,aB,simprocAttr,x8,bB,a9,aY,hg]
     repeat refine And.intro (by omega) ?_
     refine bP (k49) rfl rfl ?_
     simp -implicitDefEqProofs(disch:=first|decide|omega)only[↓aA,aC,aB,simprocAttr,x8,bB,a9,aY,hg,hp2,htf,hft]
     repeat refine And.intro (by omega) ?_
     refine ⟨j+1,?_,by omega,by omega⟩
     rw [hfg]
     exact Sub.ofS [some 0,some 1,some 2,some 3]
   · have hn:a8s a.id c=false:=by simp [a8s,hp]
     rw [hn] at hfk
     rw [hfk] at k49
     rw [hp,if_pos rfl] at hfg
     have hp2:(c.app==a.id)=true:=hp
     obtain ⟨g1,g2⟩:=hga hp
     have g3:¬ ((g.length:Int)>=(GL.length:Int)):=by omega
     simp -implicitDefEqProofs(disch:=first|decide|omega)only[↓aA,aC,aB,simprocAttr,x8,bB,a9,aY,hg]
     repeat refine And.intro (by omega) ?_
     refine bP (k49) rfl rfl ?_
     simp -implicitDefEqProofs(disch:=first|decide|omega)only[↓aA,aC,aB,simprocAttr,x8,bB,a9,aY,hg,hp2,g2,g3,bne_self_eq_false,htf,hft,I64]
     repeat refine And.intro (by omega) ?_
     refine ⟨j+1,?_,by omega,by omega⟩
     rw [hfg]
     simp only [List.length_append,List.length_cons,List.length_nil]
     exact Sub.ofS [some 0,some 1,some 2,some 3]
 have hje:j=s.conts.length:=by omega
 subst hje
 rw [List.take_length]
 generalize a7F a.id s.conts=GL at hgl ⊢
 simp -implicitDefEqProofs(disch:=first|decide|omega)only[↓aA,aC,aB,simprocAttr,x8,bB,a9,aY]
 unfold bTO
 refine Wa ?_
 have hsl:∀ x∈t.slots,(x.app==a.id)=false:=fun x hx=>by
  rw [hss] at hx
  have:=(List.mem_filter.1 hx).2
  simpa [a9i,bDQ] using this
 have htl:=Kt.st.l
 refine aF (σ:=Nat) (fun i=>⟨[(2,.int .i64 (3+q)),(8,.ref 2 0 0),(9,.ref 3 0 0),(10,.sl false 1 (GL.map I64)),(11,.int .i64 (GL.length:Int)),(16,.int .i64 (i:Int))],[.box [.int .i64 x.shape,.sl true 1 (x.ns.map I64),.sl true 5 (x.acts.map ACT)],.box (stC s),.box (bI a),.box (stC t)]⟩) (fun i=>i<=t.slots.length) (fun i=>t.slots.length-i) 0 (.inl rfl) (by omega) ?_
 rintro i hi
 unfold bTM
 by_cases hil:i<t.slots.length
 · have hg:t.slots.getD i default=t.slots[i]:=by simp [hil]
   have hx:=hsl _ (List.getElem_mem hil)
   generalize t.slots[i]=xs at hg hx
   simp -implicitDefEqProofs(disch:=first|decide|omega)only[↓aA,aC,aB,simprocAttr,x8,bB,a9,cU,hg,hx]
   repeat refine And.intro (by omega) ?_
   exact ⟨i+1,.inl rfl,by omega,by omega⟩
 have hie:i=t.slots.length:=by omega
 subst hie
 have kF:=a6p t (a2n Kt) a.id
 rw [f3] at kF
 unfold dT at kF
 simp only [Option.getD_some,Option.isSome_some] at kF
 have kE:=bKh ht hB a.id (3+q)
 rw [f4,f5] at kE
 have kL:=a2m (gD a (3+q))
 rw [f6] at kL
 have m1:(gD a (3+q)).state=3+q:=rfl
 have m2:(gD a (3+q)).asks.length=0:=rfl
 have smt:=bYq ht hB
 generalize gD a (3+q)=b at kF kL m1 m2
 refine Wh ?_
 unfold bH9
 refine Wh ?_
 refine aE (aI.of (aM:=false) (kF) (.refl rfl) rfl (by simp)) ?_
 refine Wh ?_
 refine aE (aI.of (aM:=false) (kE) (.refl rfl) rfl (by simp)) ?_
 simp -implicitDefEqProofs(disch:=first|decide|omega)only[↓aA,aC,aB,simprocAttr,x8,bB,a9,m1,m2,beq_self_eq_true]
 refine aE (aI.of (aM:=false) (kL) (.refl rfl) rfl (by simp)) ?_
 simp -implicitDefEqProofs(disch:=first|decide|omega)only[↓aA,aC,aB,simprocAttr,x8,bB,a9,m1,m2,beq_self_eq_true]
 refine aE (aI.of (aM:=false) (smt) (.refl rfl) rfl (by simp)) ?_
 exact Th
theorem b3j (x:Scr) (at_ st:Int):aW Tryz.prog 10 [.agg (jJ x),.int .i64 at_,.int .i64 st] [] fun y _=>y= .bool true:=by
 refine aK cA0 (by simp) ?_
 unfold b9F
 have kf:=aSv x
 have ks:=aGB x
 generalize hx:wM x=b at kf ks
 unfold jJ at kf ks ⊢
 refine Wb ?_
 refine aE (aI.of (aM:=false) (a6q) (.refl rfl) rfl (by simp)) ?_
 refine Wb ?_
 refine aE (aI.of (aM:=false) (kf) (.refl rfl) rfl (by simp)) ?_
 cases b
 · simp -implicitDefEqProofs(disch:=first|decide|omega)only[↓aA,aC,aB,simprocAttr,x8,bB]
 refine Wb ?_
 refine aH (ks rfl) rfl (fun y hy=>zZ hy) ?_
 rintro _ ⟨s,rfl,h⟩
 have K:=okS h (by omega)
 have ha:=K.st.a
 by_cases h0:s.apps.length=0
 · have h0i:(s.apps.length:Int)=0:=by omega
   simp -implicitDefEqProofs(disch:=first|decide|omega)only[↓aA,aC,aB,simprocAttr,x8,bB,h0i]
 have h0i:¬ (s.apps.length:Int)=0:=by omega
 have rg:=gO at_ s.apps.length (by omega)
 have c35:=a6u at_ s.apps.length (by omega) (by omega)
 obtain ⟨k,hk⟩:∃ k:Nat,inF at_ s.apps.length=(k:Int):=⟨(inF at_ s.apps.length).toNat,by omega⟩
 rw [hk] at c35 rg
 have hkl:k<s.apps.length:=by omega
 have hg:s.apps.getD k default=s.apps[k]:=by simp [hkl]
 simp -implicitDefEqProofs(disch:=first|decide|omega)only[↓aA,aC,aB,simprocAttr,x8,bB,a9,h0i]
 repeat' first
  | with_reducible apply And.intro
  | omega
  | (refine bP (c35) rfl rfl ?_;simp -implicitDefEqProofs(disch:=first|decide|omega)only[↓aA,aC,aB,simprocAttr,x8,bB,a9,hg])
  | (refine aE (aI.of (aM:=false) (c35) (.refl rfl) rfl (by simp)) ?_;simp -implicitDefEqProofs(disch:=first|decide|omega)only[↓aA,aC,aB,simprocAttr,x8,bB,a9,hg])
 all_goals exact bXe h (by omega) k hkl st x [(2,.int .i64 st),(7,.ref 1 0 0),(8,.ref 2 0 0)] rfl rfl rfl
theorem bJo (x:Scr) (k st:Int):aW Tryz.prog 10 [SCR x,.int .i64 k,.int .i64 st] [] fun y _=>y= .bool true:=aGb x (b3j x k st) rfl fun y hy=>by subst hy;exact ⟨rfl,rfl⟩
end Go.Proofs.YtakemdamegfcfaaGreat
