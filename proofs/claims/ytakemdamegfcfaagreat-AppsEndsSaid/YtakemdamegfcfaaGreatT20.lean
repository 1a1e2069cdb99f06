/- A part of a proof: what functions of the program compute. No condition. -/
import Derived.Test.YtakemdamegfcfaaGreatT19
import Derived.Test.YtakemdamegfcfaaGreatT9
import Derived.Test.YtakemdamegfcfaaGreatProg
import Derived.KernelRfl
import Derived.Test.YtakemdamegfcfaaGreatT6
import Derived.Test.YtakemdamegfcfaaGreatT10
set_option linter.unusedSimpArgs false
set_option linter.unusedVariables false
set_option maxHeartbeats 16000000
set_option maxRecDepth 100000
namespace Go.Proofs.YtakemdamegfcfaaGreat
open Go Go.Ab
def aQt (a:AV):Prop:=∃ (p:List UInt8) (m:Int),a= .agg [.str p,.int .i64 m]/\p.length<=60
def aKT (n:Nat) (y:AV):Prop:=∃ l:List AV,y= .sl false 2 l/\l.length<=16^n/\∀ x∈l,aQt x
set_option maxHeartbeats 1000000 in
theorem uU (s:Sta) (h:ST s) (hq:QA s.labels s.qs) (k:Int):∀ (n:Nat),n<=3->∀ (p:List UInt8),p.length<=60->3-p.count 46=n->∀ (mem:Int),aW Tryz.prog 221 [.agg (stC s),.str p,.int .i64 k,.int .i64 mem] [] fun y _=>aKT n y
 | n,hn,p,hp,hd,mem=>by
   have hz:QZ s.qs:=h.c.qz
   refine cX (aK aRx (by simp) ?_)
   unfold aOg
   have c110:=oQ s.labels s.qs hz p
   unfold bN at c110
   have hK16:(eT p s.qs).length<=16:=by
    unfold eT
    rw [List.length_map]
    exact Nat.le_trans (List.length_filter_le _ _) h.c.q3
   have hkd:∀ x∈eT p s.qs,_:=fun x hx=>yR hq hx
   generalize eT p s.qs=K at c110 hK16 hkd ⊢
   simp -implicitDefEqProofs(disch:=first|decide|omega)only[↓aA,aC,aB,simprocAttr,bB]
   refine aE (aI.of (aM:=false) (c110) (.refl rfl) rfl (by simp)) ?_
   by_cases h0:K=[]
   · subst h0
     simp -implicitDefEqProofs(disch:=first|decide|omega)only[↓aA,aC,aB,simprocAttr,bB]
     exact ⟨_,.refl _,[_],rfl,Nat.one_le_pow _ _ (by decide),fun x hx=>by rw [List.mem_singleton.1 hx];exact ⟨p,mem,rfl,hp⟩⟩
   have hpos:0<K.length:=List.length_pos_iff.2 h0
   have hd0:=hkd K[0] (List.getElem_mem hpos)
   obtain ⟨m,rfl⟩:∃ m,n=m+1:=⟨n-1,by omega⟩
   simp -implicitDefEqProofs(disch:=first|decide|omega)only[↓aA,aC,aB,simprocAttr,bB]
   unfold aBU
   simp -implicitDefEqProofs(disch:=first|decide|omega)only[↓aA,aC,aB,simprocAttr]
   refine aF (σ:=Nat×List Int×List Int×List Int) (fun q=>⟨[(2,.int .i64 k),(3,.int .i64 mem),(4,.ref 0 0 0),(9,.sl false 1 (K.map .str)),(10,.own 1 1 0 q.2.1.length),(11,.own 2 1 0 q.2.2.1.length),(12,.own 3 1 0 q.2.2.2.length),(13,.int .i64 (q.1:Int))],[.box (stC s),.arr 1 (q.2.1.map I64),.arr 1 (q.2.2.1.map I64),.arr 1 (q.2.2.2.map I64)]⟩) (fun q=>q.1<=K.length/\q.2.1.length=q.1/\q.2.2.1.length=q.1/\q.2.2.2.length=q.1) (fun q=>K.length-q.1) (0,[],[],[]) ?_ ⟨by simp,by simp,by simp,by simp⟩ ?_
   · exact Sub.ofS [some 0,none,none,none]
   rintro ⟨i,A,B,C⟩ ⟨hi,hA,hB,hC⟩
   simp only at hi hA hB hC
   unfold aBS
   by_cases hik:i<K.length
   · have hg:K.getD i default=K[i]:=by simp [hik]
     have hkk:=hkd K[i] (List.getElem_mem hik)
     simp -implicitDefEqProofs(disch:=first|decide|omega)only[↓aA,aC,aB,simprocAttr,bB,hg]
     repeat refine And.intro (by omega) ?_
     refine aH (uI h hq K[i] hkk.2.2 k) rfl (by rintro _ ⟨_,_,rfl⟩;rfl) ?_
     rintro _ ⟨a1,a2,rfl⟩
     simp -implicitDefEqProofs(disch:=first|decide|omega)only[↓aA,aC,aB,simprocAttr,bB,hg]
     repeat refine And.intro (by omega) ?_
     refine aH (aQH h hq K[i] hkk.2.2 k) rfl (by rintro _ ⟨_,_,rfl⟩;rfl) ?_
     rintro _ ⟨b1,b2,rfl⟩
     simp -implicitDefEqProofs(disch:=first|decide|omega)only[↓aA,aC,aB,simprocAttr,bB,hg]
     repeat refine And.intro (by omega) ?_
     refine a7 (pV h K[i] hkk.2.2 k) rfl (by rintro _ ⟨_,_,rfl⟩;rfl) ?_
     rintro _ ⟨c1,c2,rfl⟩
     simp -implicitDefEqProofs(disch:=first|decide|omega)only[↓aA,aC,aB,simprocAttr,bB,hg]
     refine a7 (aUK h K[i] hkk.2.2 k) rfl (by rintro _ ⟨_,_,rfl⟩;rfl) ?_
     rintro _ ⟨d1,d2,rfl⟩
     simp -implicitDefEqProofs(disch:=first|decide|omega)only[↓aA,aC,aB,simprocAttr,bB,hg]
     repeat refine And.intro (by omega) ?_
     refine ⟨(i+1,A++[a1],B++[IntKind.i64.wrap (c1+d1)],C++[b1]),?_,⟨by simp only;omega,by simp;omega,by simp;omega,by simp;omega⟩,by simp only;omega⟩
     simp only [List.map_append,List.map_cons,List.map_nil,List.length_append,List.length_cons,List.length_nil]
     exact Sub.ofS [some 0,some 5,some 9,some 7]
   have:i=K.length:=by omega
   subst this
   simp -implicitDefEqProofs(disch:=first|decide|omega)only[↓aA,aC,aB,simprocAttr,bB]
   refine aH (aGC mem A B C K.length hA hB hC hK16) rfl (by rintro _ ⟨_,rfl,_⟩;rfl) ?_
   rintro _ ⟨X,rfl,hX⟩
   simp -implicitDefEqProofs(disch:=first|decide|omega)only[↓aA,aC,aB,simprocAttr,bB]
   unfold aBV
   simp -implicitDefEqProofs(disch:=first|decide|omega)only[↓aA,aC,aB,simprocAttr]
   generalize hM:16^m=M
   refine aF (σ:=Nat×List AV) (fun q=>⟨[(2,.int .i64 k),(4,.ref 0 0 0),(9,.sl false 1 (K.map .str)),(14,.sl false 1 (X.map I64)),(15,.own 1 2 0 q.2.length),(16,.int .i64 (q.1:Int))],[.box (stC s),.arr 2 q.2]⟩) (fun q=>q.1<=K.length/\q.2.length<=q.1*M/\∀ x∈q.2,aQt x) (fun q=>K.length-q.1) (0,[]) ?_ ⟨by simp,by simp,by simp⟩ ?_
   · exact Sub.ofS [some 0,none]
   rintro ⟨i,L⟩ ⟨hi,hL,hm⟩
   simp only at hi hL hm
   unfold aBT
   by_cases hik:i<K.length
   · have hg:K.getD i default=K[i]:=by simp [hik]
     have hgx:X.getD i default=X[i]:=by simp [hX,hik]
     have hkk:=hkd K[i] (List.getElem_mem hik)
     have hpw:(16:Nat)^(3-K[i].count 46)<=16^m:=Nat.pow_le_pow_right (by decide) (by omega)
     have hpm:(16:Nat)^m<=16^2:=Nat.pow_le_pow_right (by decide) (by omega)
     rw [hM] at hpw hpm
     have hmi:i*M<=16*M:=Nat.mul_le_mul_right _ (by omega)
     simp -implicitDefEqProofs(disch:=first|decide|omega)only[↓aA,aC,aB,simprocAttr,bB,eG,hg,hgx,hX]
     repeat refine And.intro (by omega) ?_
     refine aH (uU s h hq k (3-K[i].count 46) (by omega) K[i] hkk.2.2 rfl X[i]) rfl (by rintro _ ⟨_,rfl,_⟩;rfl) ?_
     rintro _ ⟨l,rfl,hl1,hl2⟩
     have hel:∀ a∈l,a.el 2=true:=fun a ha=>by obtain ⟨_,_,rfl,_⟩:=hl2 a ha;rfl
     simp -implicitDefEqProofs(disch:=first|decide|omega)only[↓aA,aC,aB,simprocAttr,bB]
     repeat refine And.intro (by omega) ?_
     refine ⟨(i+1,L++l),?_,⟨by simp only;omega,?_,fun x hx=>(List.mem_append.1 hx).elim (hm x) (hl2 x)⟩,by simp only;omega⟩
     · simp only [List.length_append]
       exact Sub.ofS [some 0,some 2]
     · simp only [List.length_append]
       rw [Nat.add_mul,Nat.one_mul]
       omega
   · simp -implicitDefEqProofs(disch:=first|decide|omega)only[↓aA,aC,aB,simprocAttr,bB]
     refine ⟨_,.refl _,L,rfl,Nat.le_trans hL ?_,hm⟩
     rw [Nat.pow_succ,hM,Nat.mul_comm M]
     exact Nat.mul_le_mul_right _ (by omega)
termination_by n=>n
decreasing_by omega
structure Shr where
 path:List UInt8
 mem:Int
 deriving Inhabited
def uH (a:Shr):List AV:=[.str a.path,.int .i64 a.mem]
def SHX (a:Shr):AV:=.agg (uH a)
theorem aE0 {a:Shr}:(SHX a).cells=uH a:=rfl
theorem aKR {a:Shr}:(uH a).length=2:=rfl
theorem aQq {a:Shr}:(uH a).all AV.ok=true:=rfl
theorem aKS {a:Shr}:partOf (uH a) 0 2 true=SHX a:=rfl
theorem aUl {a:Shr}:partOf (uH a) 0 1 false= .str a.path:=rfl
theorem aKQ {P:Program} {d:Bool} {t:Nat} {l:List aP} {r:bX} {L:St->Prop} {Lp:AV->St->Prop} {a:Shr} {H:List AO}:nxt P d t l r L Lp (SHX a) H=cF P d l ⟨(t,SHX a) :: r,H⟩ L Lp:=rfl
theorem aQp {a:Shr} {ρ:Nat->Option Nat}:AV.roL ρ (uH a)=uH a:=rfl
theorem aQs {a:Shr} {ρ:Nat->Option Nat} {n:Nat}:AV.boL ρ n (uH a)=true:=rfl
attribute [simp] aQp aQs
set_option linter.defProp false in
def v7:=ai @aE0<|ai @aKR<|ai @aQq<|ai @aKS<|ai @aUl<| @aKQ
theorem aQr {a:Shr}:partOf (List.drop 1 (uH a)) 0 1 false= .int .i64 a.mem:=rfl
set_option linter.defProp false in
def v8:=@aQr
theorem aYy {s:Sta} (h:ST s) (hq:QA s.labels s.qs) (k:Int):aW Tryz.prog 217 [.agg (stC s),.int .i64 k] [] fun y _=>∃ l:List (List UInt8),y= .sl false 1 (l.map .str)/\l.length<=70000/\∀ p∈l,p.length<=60:=by
 refine aK aVY (by simp) ?_
 unfold aOU
 refine Yb ?_
 refine aH (vN s h hq k 3 (by decide) [114,111,111,116] (by decide) rfl) rfl (by rintro _ ⟨_,rfl,_⟩;rfl) ?_
 rintro _ ⟨l,rfl,hl,hx⟩
 refine Ya ?_
 exact ⟨l,rfl,by omega,hx⟩
theorem aGM:∀ {l:List AV},(∀ x∈l,aQt x)->∃ q:List Shr,l=q.map SHX/\∀ x∈q,x.path.length<=60
 | [],_=>⟨[],rfl,by simp⟩
 | x :: r,h=>by
   obtain ⟨q,rfl,hq⟩:=aGM fun y hy=>h y (List.mem_cons_of_mem _ hy)
   obtain ⟨p,m,rfl,hp⟩:=h x (by simp)
   exact ⟨⟨p,m⟩ :: q,rfl,by simpa using ⟨hp,hq⟩⟩
def aUm (y:AV):Prop:=∃ l:List Shr,y= .sl false 2 (l.map SHX)/\l.length<=70000/\∀ x∈l,x.path.length<=60
set_option maxHeartbeats 1000000 in
theorem aUQ {s:Sta} (h:ST s) (hq:QA s.labels s.qs) (k:Int):aW Tryz.prog 201 [.agg (stC s),.int .i64 k] [] fun y _=>aUm y:=by
 refine cX (aK aV6 (by simp) ?_)
 unfold aO6 aUm
 refine Yb ?_
 refine a7 (aE8 h k) rfl (by rintro _ ⟨_,_,rfl⟩;rfl) ?_
 rintro _ ⟨u,v,rfl⟩
 refine Yb ?_
 refine a7 (uU s h hq k 3 (by decide) [114,111,111,116] (by decide) rfl u) rfl (by rintro _ ⟨_,rfl,_⟩;rfl) ?_
 rintro _ ⟨X,rfl,hX,hx⟩
 obtain ⟨K,rfl,hK⟩:=aGM hx
 rw [List.length_map] at hX
 refine Yb ?_
 unfold aCZ
 refine Ya ?_
 refine aF (σ:=Nat×List Shr) (fun q=>⟨[(5,.sl false 2 (q.2.map SHX)),(6,.sl false 2 (K.map SHX)),(7,.int .i64 (q.1:Int))],[]⟩) (fun q=>q.1<=K.length/\q.2.length=q.1/\∀ x∈q.2,x∈K) (fun q=>K.length-q.1) (0,[]) ?_ ⟨by simp,by simp,by simp⟩ ?_
 · exact Sub.ofS []
 rintro ⟨i,L⟩ ⟨hi,hL,hm⟩
 simp only at hi hL hm
 unfold aCX
 by_cases hik:i<K.length
 case neg =>
  refine Yb ?_
  exact ⟨_,.refl _,L,rfl,by omega,fun x hx=>hK x (hm x hx)⟩
 have hg:K.getD i default=K[i]:=by simp [hik]
 refine Yb ?_
 unfold aC0
 refine Ya ?_
 refine aF (σ:=Nat) (fun j=>⟨[(5,.sl false 2 (L.map SHX)),(6,.sl false 2 (K.map SHX)),(7,.int .i64 (i:Int)),(8,.int .i64 (j:Int))],[]⟩) (fun j=>j<=L.length) (fun j=>L.length-j) 0 (.inl rfl) (by omega) ?_
 intro j hj
 unfold aCY
 have fin:∀ j,j<=L.length->∀ z∈L.take j++[K[i]]++L.drop j,z∈K:=fun j hj z hz=>by
  simp only [List.mem_append,List.mem_singleton] at hz
  rcases hz with (hz|rfl)|hz
  · exact hm z (List.mem_of_mem_take hz)
  · exact List.getElem_mem hik
  · exact hm z (List.mem_of_mem_drop hz)
 by_cases hjl:j<L.length
 · have hgl:L.getD j default=L[j]:=by simp [hjl]
   cases hbl:Op.bytesLess L[j].path K[i].path
   · simp -implicitDefEqProofs(disch:=first|decide|omega)only[↓aA,aC,aB,simprocAttr,bB,v7,v8,hg,hgl,hbl]
     have eL:List.take (min j L.length-0+1+(L.length-j)) (List.take (min j L.length-0+1) (List.map SHX (List.take (min j L.length-0) (List.take j L))++[SHX K[i]])++List.map SHX (List.drop j L))=(L.take j++[K[i]]++L.drop j).map SHX:=by
      simp [List.take_of_length_le,Nat.min_eq_left hj]
      exact List.take_of_length_le (by simp;omega)
     rw [eL]
     repeat refine And.intro (by omega) ?_
     refine ⟨(i+1,L.take j++[K[i]]++L.drop j),?_,⟨by simp only;omega,by simp;omega,fin j hj⟩,by simp only;omega⟩
     exact Sub.ofS []
   · simp -implicitDefEqProofs(disch:=first|decide|omega)only[↓aA,aC,aB,simprocAttr,bB,v7,v8,hg,hgl,hbl]
     repeat refine And.intro (by omega) ?_
     exact ⟨j+1,.inl rfl,by omega,by omega⟩
 · have:j=L.length:=by omega
   subst this
   simp -implicitDefEqProofs(disch:=first|decide|omega)only[↓aA,aC,aB,simprocAttr,bB,v7,v8,hg]
   have eL:List.take (L.length-0+1) (List.take (L.length-0+1) (List.map SHX (List.take (L.length-0) L)++[SHX K[i]])++List.map SHX (List.drop L.length L))=(L.take L.length++[K[i]]++L.drop L.length).map SHX:=by
    simp [List.take_of_length_le]
   rw [eL]
   repeat refine And.intro (by omega) ?_
   refine ⟨(i+1,L.take L.length++[K[i]]++L.drop L.length),?_,⟨by simp only;omega,by simp;omega,fin _ (Nat.le_refl _)⟩,by simp only;omega⟩
   exact Sub.ofS []
theorem aYA {s:Sta} (h:ST s) (hq:QA s.labels s.qs) (k:Int) (p:List UInt8) (hp:p.length<=60):aW Tryz.prog 200 [.agg (stC s),.int .i64 k,.str p] [] fun y _=>qI y:=by
 refine aK aV7 (by simp) ?_
 unfold aO7
 refine Yb ?_
 refine aH (aUQ h hq k) rfl (by rintro _ ⟨_,rfl,_⟩;rfl) ?_
 rintro _ ⟨K,rfl,hK,hx⟩
 refine Yb ?_
 unfold aC2
 refine Ya ?_
 refine aF (σ:=Nat) (fun i=>⟨[(2,.str p),(7,.sl false 2 (K.map SHX)),(8,.int .i64 (i:Int))],[]⟩) (fun i=>i<=K.length) (fun i=>K.length-i) 0 ?_ (by omega) ?_
 · exact Sub.ofS []
 intro i hi
 unfold aC1
 by_cases hn:i<K.length
 · simp -implicitDefEqProofs(disch:=first|decide|omega)only[↓aA,aC,aB,simprocAttr,bB,v7,v8]
   repeat' first
    | exact ⟨_,rfl⟩
    | with_reducible apply And.intro
    | omega
    | (refine ⟨i+1,?_,by omega,by omega⟩;exact .inl rfl)
    | (refine a8 (fun hb=>?_) (fun hb=>?_)<;>simp -implicitDefEqProofs(disch:=first|decide|omega)only[↓aA,aC,aB,simprocAttr,hb,bB,v7,v8])
 · refine Yb ?_
   exact ⟨_,rfl⟩
set_option maxHeartbeats 1000000 in
theorem aYz {s:Sta} (h:ST s) (hq:QA s.labels s.qs) (p:List UInt8) (hp:p.length<=60) (k:Int):aW Tryz.prog 202 [.agg (stC s),.str p,.int .i64 k] [] fun y _=>qI y:=by
 have k3:=h.a
 refine aK aV5 (by simp) ?_
 unfold aO5
 refine Yb ?_
 refine a7 (pV h p hp k) rfl (by rintro _ ⟨_,_,rfl⟩;rfl) ?_
 rintro _ ⟨u,u2,rfl⟩
 refine Yb ?_
 refine a7 (uI h hq p hp k) rfl (by rintro _ ⟨_,_,rfl⟩;rfl) ?_
 rintro _ ⟨v,v2,rfl⟩
 refine Yb ?_
 unfold aCV
 refine Ya ?_
 refine aF (σ:=Nat) (fun i=>⟨[(1,.str p),(2,.int .i64 k),(3,.ref 0 0 0),(7,.int .i64 u),(8,.int .i64 v),(9,.int .i64 (i:Int))],[.box (stC s)]⟩) (fun i=>i<=s.apps.length) (fun i=>s.apps.length-i) 0 ?_ (by omega) ?_
 · exact Sub.ofS [some 0]
 intro i hi
 unfold aCT
 by_cases hn:i<s.apps.length
 case neg =>
  refine Yb ?_
  exact ⟨_,rfl⟩
 have hg:s.apps.getD i default=s.apps[i]:=by simp [hn]
 have haq:=(h.ar _ (List.getElem_mem hn)).asks
 generalize s.apps[i]=a at hg haq
 refine Xh hg ?_
 unfold aCW
 simp -implicitDefEqProofs(disch:=first|decide|omega)only[↓aA,aC,aB,simprocAttr]
 repeat refine And.intro (by omega) ?_
 refine aF (σ:=Nat) (fun j=>⟨[(1,.str p),(2,.int .i64 k),(3,.ref 0 0 0),(7,.int .i64 u),(8,.int .i64 v),(9,.int .i64 (i:Int)),(10,.ref 1 0 0),(11,.int .i64 (j:Int))],[.box (stC s),.box (bI a)]⟩) (fun j=>j<=a.asks.length) (fun j=>a.asks.length-j) 0 ?_ (by omega) ?_
 · first|exact .inl rfl|exact Sub.ofS [some 0,some 1]
 intro j hj
 unfold aCU
 by_cases hm:j<a.asks.length
 all_goals
  simp -implicitDefEqProofs(disch:=first|decide|omega)only[↓aA,aC,aB,simprocAttr,bB,a9,bF]
  repeat' first
   | exact ⟨_,rfl⟩
   | with_reducible apply And.intro
   | omega
   | (refine aE (aI.of (aM:=false) (fX a) (.refl rfl) rfl (by simp)) ?_;simp -implicitDefEqProofs(disch:=first|decide|omega)only[↓aA,aC,aB,simprocAttr,bB,a9,bF])
   | (refine aH (aUK h p hp k) rfl (by rintro _ ⟨_,_,rfl⟩;rfl) ?_;rintro _ ⟨w1,w2,rfl⟩;simp -implicitDefEqProofs(disch:=first|decide|omega)only[↓aA,aC,aB,simprocAttr,bB,a9,bF])
   | (refine ⟨j+1,?_,by omega,by omega⟩;(refine Sub.of0 [some 0,some 1] rfl ?_ rfl ?_<;>repeat' first|trivial|rfl|exact .inl rfl|exact .inr ⟨rfl,_,_,rfl⟩|(simp;done)|(simp;omega)|refine And.intro ?_ ?_))
   | (refine ⟨i+1,?_,by omega,by omega⟩;(refine Sub.of0 [some 0] rfl ?_ rfl ?_<;>repeat' first|trivial|rfl|exact .inl rfl|exact .inr ⟨rfl,_,_,rfl⟩|(simp;done)|(simp;omega)|refine And.intro ?_ ?_))
   | (refine bC (fun hb=>?_) (fun hb=>?_)<;>simp -implicitDefEqProofs(disch:=first|decide|omega)only[↓aA,aC,aB,simprocAttr,hb,bB,a9,bF])
   | (refine a8 (fun hb=>?_) (fun hb=>?_)<;>simp -implicitDefEqProofs(disch:=first|decide|omega)only[↓aA,aC,aB,simprocAttr,hb,bB,a9,bF])
structure uF (s0 s:Sta):Prop where
 n:s.nodes=s0.nodes
 c:s.conts=s0.conts
 l:s.slots=s0.slots
 q:s.sq=s0.sq
 li:∀ id,aEM s0 id->aEM s id
theorem uF.refl (s:Sta):uF s s:=⟨rfl,rfl,rfl,rfl,fun _ h=>h⟩
theorem uF.trans {a b c:Sta} (h:uF a b) (k:uF b c):uF a c:=⟨k.n.trans h.n,k.c.trans h.c,k.l.trans h.l,k.q.trans h.q,fun i hi=>k.li i (h.li i hi)⟩
theorem aFu {B:Nat} {s s':Sta} (h:II B s) (hs:zP s s'):uF s s':=by
 rcases hs with rfl|⟨a,ha,b,hid,hst,rfl⟩
 · exact .refl _
 · refine ⟨rfl,rfl,rfl,rfl,fun i hi=>?_⟩
   obtain ⟨c,hc,rfl,hl⟩:=hi
   by_cases he:c.id=b.id
   · have hca:c=a:=gL h.aS hc ha (by omega)
     subst hca
     exact ⟨b,mW,he.symm,by unfold live at hl ⊢;rw [hst];exact hl⟩
   · exact ⟨c,nY hc he,rfl,hl⟩
theorem aKc {B:Nat} {s:Sta} {y:AV} (h:aNL B s y):y.low=true:=by
 obtain ⟨s',k,c,rfl,_⟩:=h
 rfl
def aGW (B:Nat) (s:Sta) (y:AV):Prop:=∃ s':Sta,∃ k:Int,∃ c:bD,y= .tup [.agg (stC s'),.int .i64 k,bY c]/\II (B+1) s'/\(k=0->II B s'/\uF s s')
set_option maxHeartbeats 4000000 in
theorem mT {B:Nat} (s:Sta) (h:II B s) (hB:B+1<=2^39) (n:Node) (hn:n∈s.nodes) (hu:n.up=true) (hc:s.conts.length<200) (hq:s.sq+1<2^20) (hs:∀ y∈s.slots,y.node≠n.id) (first:Bool) :
 aW Tryz.prog 195 [.agg (stC s),bO n,.bool first] [] fun y _=>aGW B s y:=by
 have K:=okS h (by omega)
 refine aO aRR (by simp) ?_
 unfold aPc
 refine Yi ?_
 refine aH (aYy K.st K.w n.label) rfl (by rintro _ ⟨_,rfl,_⟩;rfl) ?_
 rintro _ ⟨lv,rfl,hlv1,hlv2⟩
 refine Ya ?_
 unfold aC8
 refine Ya ?_
 refine aF (σ:=Nat×Sta) (fun p=>⟨[(2,.bool first),(3,.ref 0 0 0),(4,.ref 1 0 0),(6,.ref 2 0 0),(8,.ref 3 0 0),(9,.sl false 1 (lv.map .str)),(10,.int .i64 (p.1:Int))],[.box (stC p.2),.box (cB n),.box [.aD,.aD,.aD,.aD,.aD,.aD,.aD,.int .i64 0,.int .i64 0,.int .i64 0],.box [.int .i64 0,.int .i64 0,.int .i64 0,.int .i64 0,.int .i64 0,.int .i64 0,.int .i64 0,.bool false,.int .i64 0]]⟩) (fun p=>p.1<=lv.length/\II B p.2/\uF s p.2) (fun p=>lv.length-p.1) (0,s) (.inl rfl) ⟨by simp,h,.refl _⟩ ?_
 rintro ⟨i,t⟩ ⟨hi,ht,hk⟩
 simp only at hi ht hk
 unfold aC5
 by_cases hil:i<lv.length
 · have hg:lv.getD i default=lv[i]:=by simp [hil]
   have K2:=okS ht (by omega)
   have hta:=K2.st.a
   simp -implicitDefEqProofs(disch:=first|decide|omega)only[↓aA,aC,aB,simprocAttr,bB,aN,hg]
   repeat refine And.intro (by omega) ?_
   refine aH (aGl t (by have:=K2.st.a;omega) lv[i]) rfl (by rintro _ ⟨_,rfl,_⟩;rfl) ?_
   rintro _ ⟨ids,rfl,hids1,hids2⟩
   refine Ya ?_
   unfold aC9
   refine Ya ?_
   refine aF (σ:=Nat×Sta) (fun p=>⟨[(2,.bool first),(3,.ref 0 0 0),(4,.ref 1 0 0),(6,.ref 2 0 0),(8,.ref 3 0 0),(9,.sl false 1 (lv.map .str)),(10,.int .i64 (i:Int)),(11,.sl false 1 (ids.map I64)),(12,.int .i64 (p.1:Int))],[.box (stC p.2),.box (cB n),.box [.aD,.aD,.aD,.aD,.aD,.aD,.aD,.int .i64 0,.int .i64 0,.int .i64 0],.box [.int .i64 0,.int .i64 0,.int .i64 0,.int .i64 0,.int .i64 0,.int .i64 0,.int .i64 0,.bool false,.int .i64 0]]⟩) (fun p=>p.1<=ids.length/\II B p.2/\uF t p.2) (fun p=>ids.length-p.1) (0,t) (.inl rfl) ⟨by simp,ht,.refl _⟩ ?_
   rintro ⟨j,u⟩ ⟨hj,hu2,hk2⟩
   simp only at hj hu2 hk2
   have hKi:=(hlv2 lv[i] (List.getElem_mem hil))
   unfold aC6
   by_cases hjl:j<ids.length
   · have hgj:ids.getD j default=ids[j]:=by simp [hjl]
     have K3:=okS hu2 (by omega)
     obtain ⟨a,haa,haid,hal⟩:=hk2.li _ (hids2 ids[j] (List.getElem_mem hjl))
     have hfa:dP ids[j] u.apps=some a:=by rw [<- haid];exact tI hu2.aS haa
     have haR:=hu2.aR a haa
     have c40:=gV u (by have:=K3.sz.a;omega) ids[j]
     unfold dT at c40
     rw [hfa,Option.getD_some,Option.isSome_some] at c40
     simp -implicitDefEqProofs(disch:=first|decide|omega)only[↓aA,aC,aB,simprocAttr,bB,aN,hg,hgj,I64]
     repeat refine And.intro (by omega) ?_
     refine bP (c40) rfl rfl ?_
     simp -implicitDefEqProofs(disch:=first|decide|omega)only[↓aA,aC,aB,simprocAttr,bB,aN,a9,hg]
     repeat refine And.intro (by omega) ?_
     refine aH (aUM K3.st K3.w lv[i] hKi n.label a.user) rfl (by rintro _ ⟨_,rfl⟩;rfl) ?_
     rintro _ ⟨more,rfl⟩
     cases more
     · simp -implicitDefEqProofs(disch:=first|decide|omega)only[↓aA,aC,aB,simprocAttr,bB,aN,a9]
       refine ⟨(j+1,u),?_,⟨by simp only;omega,hu2,hk2⟩,by simp only;omega⟩
       exact Sub.ofS [some 0,some 1,some 2,some 3]
     simp -implicitDefEqProofs(disch:=first|decide|omega)only[↓aA,aC,aB,simprocAttr,bB,aN,a9]
     unfold aDa
     refine Ya ?_
     refine aF (σ:=Nat×Sta) (fun p=>⟨[(2,.bool first),(3,.ref 0 0 0),(4,.ref 1 0 0),(6,.ref 2 0 0),(8,.ref 3 0 0),(9,.sl false 1 (lv.map .str)),(10,.int .i64 (i:Int)),(11,.sl false 1 (ids.map I64)),(12,.int .i64 (j:Int)),(13,.ref 4 0 0),(15,.int .i64 (p.1:Int))],[.box (stC p.2),.box (cB n),.box [.aD,.aD,.aD,.aD,.aD,.aD,.aD,.int .i64 0,.int .i64 0,.int .i64 0],.box [.int .i64 0,.int .i64 0,.int .i64 0,.int .i64 0,.int .i64 0,.int .i64 0,.int .i64 0,.bool false,.int .i64 0],.box (bI a)]⟩) (fun p=>p.1<=a.asks.length/\II B p.2/\uF t p.2) (fun p=>a.asks.length-p.1) (0,u) (.inl rfl) ⟨by simp,hu2,hk2⟩ ?_
     rintro ⟨k,v⟩ ⟨hkk,hv,hk3⟩
     simp only at hkk hv hk3
     unfold aC7
     by_cases hkl:k<a.asks.length
     · have hgk:a.asks.getD k default=a.asks[k]:=by simp [hkl]
       have hax:=haR.ask _ (List.getElem_mem hkl)
       have hasl:=haR.asks
       have K4:=okS hv (by omega)
       obtain ⟨b,hba,hbid,hbl⟩:=hk3.li _ (hids2 ids[j] (List.getElem_mem hjl))
       have hfb:dP ids[j] v.apps=some b:=by rw [<- hbid];exact tI hv.aS hba
       have c40:=gV v (by have:=K4.sz.a;omega) ids[j]
       unfold dT at c40
       rw [hfb,Option.getD_some,Option.isSome_some] at c40
       have hk4:=hk.trans hk3
       have c219:=aKD v hv hB n (by rw [hk4.n];exact hn) hu b hba hbl a.asks[k] hax (by rw [hk4.c];exact hc) (by rw [hk4.q];exact hq) (by rw [hk4.l];exact hs) first
       simp -implicitDefEqProofs(disch:=first|decide|omega)only[↓aA,aC,aB,simprocAttr,bB,aN,a9,hgj,I64]
       repeat refine And.intro (by omega) ?_
       refine bP (c40) rfl rfl ?_
       simp -implicitDefEqProofs(disch:=first|decide|omega)only[↓aA,aC,aB,simprocAttr,bB,aN,a9,bF,hgk]
       repeat' (with_reducible apply And.intro)
       all_goals try omega
       all_goals
        refine a7 c219 rfl (fun y hy=>aKc hy) ?_
        rintro _ ⟨s',kd,c,rfl,hi',h0⟩
        by_cases h0k:kd=0
        · have h01:=h0 h0k
          simp -implicitDefEqProofs(disch:=first|decide|omega)only[↓aA,aC,aB,simprocAttr,bB,aY,h0k]
          repeat' (with_reducible apply And.intro)
          all_goals
           refine ⟨(k+1,s'),?_,⟨by simp only;omega,h01.1,hk3.trans (aFu hv h01.2)⟩,by simp only;omega⟩
           exact Sub.ofS [some 0,some 1,some 2,some 3,some 4]
        · simp -implicitDefEqProofs(disch:=first|decide|omega)only[↓aA,aC,aB,simprocAttr,bB,aY,h0k]
          repeat' (with_reducible apply And.intro)
          all_goals exact ⟨s',kd,c,rfl,hi',fun e=>absurd e h0k⟩
     · have:k=a.asks.length:=by omega
       subst this
       simp -implicitDefEqProofs(disch:=first|decide|omega)only[↓aA,aC,aB,simprocAttr,bB,aN,a9]
       refine ⟨(j+1,v),?_,⟨by simp only;omega,hv,hk3⟩,by simp only;omega⟩
       exact Sub.ofS [some 0,some 1,some 2,some 3]
   · have:j=ids.length:=by omega
     subst this
     refine Yi ?_
     refine ⟨(i+1,u),?_,⟨by simp only;omega,hu2,hk.trans hk2⟩,by simp only;omega⟩
     exact Sub.ofS [some 0,some 1,some 2,some 3]
 · have:i=lv.length:=by omega
   subst this
   refine Yi ?_
   exact ⟨t,0,cI,rfl,ht.mono (by omega),fun _=>⟨ht,hk⟩⟩
def aQ6 (B:Nat) (y:AV):Prop:=∃ s':Sta,∃ k:Int,∃ c:bD,y= .tup [.agg (stC s'),.int .i64 k,bY c]/\II (B+1) s'
theorem lF {B:Nat} {s:Sta} {y:AV} (h:aGW B s y):y.low=true:=by
 obtain ⟨s',k,c,rfl,_⟩:=h
 rfl
theorem aFt {B:Nat} {s:Sta} {n:Node} {y:AV} (h:s8 B s n y):y.low=true:=by
 obtain ⟨s',k,c,d,rfl,_⟩:=h
 rfl
theorem aHx {B:Nat} {y:AV} (h:aQ6 B y):y.low=true:=by
 obtain ⟨s',k,c,rfl,_⟩:=h
 rfl
set_option maxHeartbeats 4000000 in
theorem aKC {B:Nat} (s:Sta) (h:II B s) (hB:B+1<=2^39) (id:Int):aW Tryz.prog 177 [.agg (stC s),.int .i64 id] [] fun y _=>aQ6 B y:=by
 have K:=okS h (by omega)
 have d0:aQ6 B (.tup [.agg (stC s),.int .i64 0,bY cI]):=⟨s,0,cI,rfl,h.mono (by omega)⟩
 refine aO aRX (by simp) ?_
 unfold aPo
 have c24:=kV s (by have:=K.st.n;omega) id
 unfold dT at c24
 refine Yi ?_
 refine aE (aI.of (aM:=false) (c24) (.refl rfl) rfl (by simp)) ?_
 cases hf:eH id s.nodes with
 | none =>
   simp -implicitDefEqProofs(disch:=first|decide|omega)only[↓aA,aC,aB,simprocAttr,bB,aN,Option.isSome_none,Option.getD_none]
   exact d0
 | some n =>
   have hn:=(gG hf).1
   have hid:=(gG hf).2
   cases hu:n.up
   · simp -implicitDefEqProofs(disch:=first|decide|omega)only[↓aA,aC,aB,simprocAttr,bB,aN,Option.isSome_some,Option.getD_some,hu]
     exact d0
   by_cases hc:s.conts.length<200
   case neg =>
    simp -implicitDefEqProofs(disch:=first|decide|omega)only[↓aA,aC,aB,simprocAttr,bB,aN,Option.isSome_some,Option.getD_some,hu]
    exact d0
   by_cases hq:s.sq+1<2^20
   case neg =>
    simp -implicitDefEqProofs(disch:=first|decide|omega)only[↓aA,aC,aB,simprocAttr,bB,aN,Option.isSome_some,Option.getD_some,hu]
    exact d0
   simp -implicitDefEqProofs(disch:=first|decide|omega)only[↓aA,aC,aB,simprocAttr,bB,aN,Option.isSome_some,Option.getD_some,hu]
   have c193:=aKa s (by have:=K.sz.l;omega) id
   unfold dT at c193
   refine aE (aI.of (aM:=false) (c193) (.refl rfl) rfl (by simp)) ?_
   cases hsl:aGJ id s.slots with
   | none =>
     have hs:∀ y∈s.slots,y.node≠n.id:=fun y hy e=>by
      have:=List.find?_eq_none.1 hsl y hy
      simp at this
      omega
     simp -implicitDefEqProofs(disch:=first|decide|omega)only[↓aA,aC,aB,simprocAttr,bB,aN,cU,Option.isSome_none,Option.getD_none]
     refine aH (mT s h hB n hn hu hc hq hs true) rfl (fun y hy=>lF hy) ?_
     rintro _ ⟨s1,k1,c1,rfl,hi1,h01⟩
     by_cases hk1:k1=0
     · have h1:=h01 hk1
       simp -implicitDefEqProofs(disch:=first|decide|omega)only[↓aA,aC,aB,simprocAttr,bB,aY,aN,hk1]
       refine aH (mT s1 h1.1 hB n (by rw [h1.2.n];exact hn) hu (by rw [h1.2.c];exact hc) (by rw [h1.2.q];exact hq) (by rw [h1.2.l];exact hs) false) rfl (fun y hy=>lF hy) ?_
       rintro _ ⟨s2,k2,c2,rfl,hi2,_⟩
       simp -implicitDefEqProofs(disch:=first|decide|omega)only[↓aA,aC,aB,simprocAttr,bB,aY]
       exact ⟨s2,k2,c2,rfl,hi2⟩
     · simp -implicitDefEqProofs(disch:=first|decide|omega)only[↓aA,aC,aB,simprocAttr,bB,aY,aN,hk1]
       repeat' (with_reducible apply And.intro)
       all_goals exact ⟨s1,k1,c1,rfl,hi1⟩
   | some x =>
     simp -implicitDefEqProofs(disch:=first|decide|omega)only[↓aA,aC,aB,simprocAttr,bB,aN,cU,Option.isSome_some,Option.getD_some]
     refine aH (aGj s h hB n hn hu x hc hq) rfl (fun y hy=>aFt hy) ?_
     rintro _ ⟨s0,k0,c0,d,rfl,hi0,h00⟩
     cases d
     · have e0:=h00 rfl
       subst e0
       have hs:∀ y∈(bV s n.id).slots,y.node≠n.id:=fun y hy e=>by
        have:=(List.mem_filter.1 hy).2
        simp at this
        exact this e
       simp -implicitDefEqProofs(disch:=first|decide|omega)only[↓aA,aC,aB,simprocAttr,bB,aY,aN]
       refine aH (mT (bV s n.id) (jC h _) hB n hn hu hc hq hs true) rfl (fun y hy=>lF hy) ?_
       rintro _ ⟨s1,k1,c1,rfl,hi1,h01⟩
       by_cases hk1:k1=0
       · have h1:=h01 hk1
         simp -implicitDefEqProofs(disch:=first|decide|omega)only[↓aA,aC,aB,simprocAttr,bB,aY,aN,hk1]
         refine aH (mT s1 h1.1 hB n (by rw [h1.2.n];exact hn) hu (by rw [h1.2.c];exact hc) (by rw [h1.2.q];exact hq) (by rw [h1.2.l];exact hs) false) rfl (fun y hy=>lF hy) ?_
         rintro _ ⟨s2,k2,c2,rfl,hi2,_⟩
         simp -implicitDefEqProofs(disch:=first|decide|omega)only[↓aA,aC,aB,simprocAttr,bB,aY]
         exact ⟨s2,k2,c2,rfl,hi2⟩
       · simp -implicitDefEqProofs(disch:=first|decide|omega)only[↓aA,aC,aB,simprocAttr,bB,aY,aN,hk1]
         repeat' (with_reducible apply And.intro)
         all_goals exact ⟨s1,k1,c1,rfl,hi1⟩
     · simp -implicitDefEqProofs(disch:=first|decide|omega)only[↓aA,aC,aB,simprocAttr,bB,aY,aN]
       repeat' (with_reducible apply And.intro)
       all_goals exact ⟨s0,k0,c0,rfl,hi0⟩
def aQa (B:Nat) (y:AV):Prop:=∃ s':Sta,∃ l:List bD,y= .tup [.agg (stC s'),.sl false 9 (l.map bY)]/\II (B+3) s'
theorem aF5 {B:Nat} {y:AV} (h:aQa B y):y.low=true:=by
 obtain ⟨s',l,rfl,_⟩:=h
 rfl
set_option maxHeartbeats 1000000 in
theorem aGk {B:Nat} (s:Sta) (h:II B s) (hB:B+3<=2^39) (id:Int):aW Tryz.prog 149 [.agg (stC s),.int .i64 id] [] fun y _=>aQa B y:=by
 refine aO aR2 (by simp) ?_
 unfold aPE
 refine Yb ?_
 unfold aD2
 refine Ya ?_
 refine aF (σ:=Nat×Sta×List bD) (fun p=>⟨[(1,.int .i64 id),(2,.ref 0 0 0),(4,.ref 1 0 0),(6,.own 2 9 0 p.2.2.length),(7,.int .i64 (p.1:Int))],[.box (stC p.2.1),.box [.aD,.aD,.aD,.aD,.aD,.aD,.aD,.int .i64 0,.int .i64 0,.int .i64 0],.arr 9 (p.2.2.map bY)]⟩) (fun p=>p.1<=3/\II (B+p.1) p.2.1/\p.2.2.length<=p.1) (fun p=>3-p.1) (0,s,[]) ?_ ⟨by simp,h,by simp⟩ ?_
 · exact Sub.ofS [some 0,some 1,none]
 rintro ⟨k,t,l⟩ ⟨hk,ht,hl⟩
 simp only at hk ht hl
 unfold aD1
 by_cases hk3:k<3
 · refine Yb ?_
   refine aH (aKC t ht (by omega) id) rfl (fun y hy=>aHx hy) ?_
   rintro _ ⟨s1,k1,c1,rfl,hi1⟩
   by_cases h1:k1=1
   · simp -implicitDefEqProofs(disch:=first|decide|omega)only[↓aA,aC,aB,simprocAttr,bB,aY,h1]
     repeat refine And.intro (by omega) ?_
     refine ⟨(k+1,s1,l++[c1]),?_,⟨by simp only;omega,hi1,by simp;omega⟩,by simp only;omega⟩
     simp only [List.map_append,List.map_cons,List.map_nil,List.length_append,List.length_cons,List.length_nil]
     exact Sub.ofS [some 0,some 1,some 6]
   · refine Xc h1 ?_
     exact ⟨s1,l,rfl,hi1.mono (by omega)⟩
 · refine Yb ?_
   exact ⟨t,l,rfl,ht.mono (by omega)⟩
def a1b:{c:CC // aJ Tryz.prog 156=c}:=⟨_,by conv=>lhs;reduce⟩
def aKx:{c:CC // bA Tryz.prog 156 {} a1b.1 [([1,1,0,1,0,0,1,0,0,1,1,1,0,0,1,0,0],(.f [1,2,3,5,1004,0,6,7,8,9])),([1,1,1,0],(.f [0,1,2,2003,4,5]))]=c}:=⟨_,by conv=>lhs;reduce⟩
def aDO:CC:=(fun (c:CC) (_:(aKx.1.aV [1,1,0,1,0,0,1,0,0,1,1,1,0,0])=c)=>c) _ (by conv=>lhs;reduce)
def aDQ:CC:=(fun (c:CC->CC) (_:(fun a0=>(aKx.1.aV [1,1,0,1,0,0,1,0,0,1,1,1]).aU [0,0] a0)=c)=>c) _ (by conv=>lhs;reduce) aDO
def aDN:CC:=(fun (c:CC->CC) (_:(fun a0=>(aKx.1.aV [1,1,0,1,0,0]).aU [1,0,0,1,1,1] a0)=c)=>c) _ (by conv=>lhs;reduce) aDQ
def aDP:CC:=(fun (c:CC->CC) (_:(fun a0=>(aKx.1.aV [1,1,0,1]).aU [0,0] a0)=c)=>c) _ (by conv=>lhs;reduce) aDN
def aPx:CC:=(fun (c:CC->CC) (_:(fun a0=>(aKx.1).aU [1,1,0,1] a0)=c)=>c) _ (by conv=>lhs;reduce) aDP
theorem aRZ:aX Tryz.prog 156 aPx [.ce 2 41 10 true,.tm 3] 42:=aX.of Tryz.f156 Tryz.func156 rfl ⟨by kernel_rfl,trivial⟩
def a1a:{c:CC // aJ Tryz.prog 157=c}:=⟨_,by conv=>lhs;reduce⟩
def aTY:{c:CC // bA Tryz.prog 157 {} a1a.1 [([1,1,0,1,0,0,1,0,0,0],(.f [1,3,0,2,4,5,6,11,2007,8,9,10,12,13]))]=c}:=⟨_,by conv=>lhs;reduce⟩
def aDL:CC:=(fun (c:CC) (_:(aTY.1.aV [1,1,0,1,0,0])=c)=>c) _ (by conv=>lhs;reduce)
def aDM:CC:=(fun (c:CC->CC) (_:(fun a0=>(aTY.1.aV [1,1,0,1]).aU [0,0] a0)=c)=>c) _ (by conv=>lhs;reduce) aDL
def aPw:CC:=(fun (c:CC->CC) (_:(fun a0=>(aTY.1).aU [1,1,0,1] a0)=c)=>c) _ (by conv=>lhs;reduce) aDM
theorem aWn:aZ Tryz.prog 157 aPw [4] 39:=aZ.of Tryz.f157 Tryz.func157 rfl
def a0Z:{c:CC // aJ Tryz.prog 180=c}:=⟨_,by conv=>lhs;reduce⟩
def aKw:{c:CC // bA Tryz.prog 180 {} a0Z.1 [([1,1,1,0,1,0,0,1,0,0,0],(.f [1,2,3,4,0,5,10,2006,7,8,9,11,12])),([1,1,1,0,1,0,0,1,0,0,1,1,0],(.f [4,12,0,1,2,7,8,11,13,14,2003,2005,6,2009,10,2015,2016,17]))]=c}:=⟨_,by conv=>lhs;reduce⟩
def aDs:CC:=(fun (c:CC) (_:(aKw.1.aV [1,1,1,0,1,0,0])=c)=>c) _ (by conv=>lhs;reduce)
def aDu:CC:=(fun (c:CC->CC) (_:(fun a0=>(aKw.1.aV [1,1,1,0,1]).aU [0,0] a0)=c)=>c) _ (by conv=>lhs;reduce) aDs
def aDr:CC:=(fun (c:CC) (_:(aKw.1.aV [1,1,0,1,0,0])=c)=>c) _ (by conv=>lhs;reduce)
def aDt:CC:=(fun (c:CC->CC) (_:(fun a0=>(aKw.1.aV [1,1,0,1]).aU [0,0] a0)=c)=>c) _ (by conv=>lhs;reduce) aDr
def aPl:CC:=(fun (c:CC->CC->CC) (_:(fun a0 a1=>((aKw.1).aU [1,1,0,1] a0).aU [1,1,1,0,1] a1)=c)=>c) _ (by conv=>lhs;reduce) aDt aDu
theorem aRW:aX Tryz.prog 180 aPl [.ce 4 41 10 true] 91:=aX.of Tryz.f180 Tryz.func180 rfl ⟨by kernel_rfl,trivial⟩
def a0Y:{c:CC // aJ Tryz.prog 181=c}:=⟨_,by conv=>lhs;reduce⟩
def aBh:{c:CC // bA Tryz.prog 181 {} a0Y.1 [([1,1,0],(.f [1,5,0,4,2002,3,2006,7,8,9,10,11])),([1,1,1,0,1,0,0,1,0,0],(.f [0,2,3,4,5,7,1,6,8,9,10])),([1,1,1,1,1,0,0,0,1,0,1,0,1,0,0,1,0,0,1,0],(.p [1,2,5,6,7,8,12,13,14,0,11] (.p [2003,4] (.f [9,10,15,16,17]) (.f [15,9,10,16,17])) (.f [9,2003,4,10,15,16,17])))]=c}:=⟨_,by conv=>lhs;reduce⟩
def aDn:CC:=(fun (c:CC) (_:(aBh.1.aV [1,1,1,1,1,0,0,0,1,0,1,0,1,0,0])=c)=>c) _ (by conv=>lhs;reduce)
def aDq:CC:=(fun (c:CC->CC) (_:(fun a0=>(aBh.1.aV [1,1,1,1,1,0,0,0,1,0,1,0,1]).aU [0,0] a0)=c)=>c) _ (by conv=>lhs;reduce) aDn
def aDm:CC:=(fun (c:CC->CC) (_:(fun a0=>(aBh.1.aV [1,1,1,1,1,0,0,0]).aU [1,0,1,0,1] a0)=c)=>c) _ (by conv=>lhs;reduce) aDq
def aDp:CC:=(fun (c:CC->CC) (_:(fun a0=>(aBh.1.aV [1,1,1,1,1,0]).aU [0,0] a0)=c)=>c) _ (by conv=>lhs;reduce) aDm
def aDl:CC:=(fun (c:CC) (_:(aBh.1.aV [1,1,1,0,1,0,0])=c)=>c) _ (by conv=>lhs;reduce)
def aDo:CC:=(fun (c:CC->CC) (_:(fun a0=>(aBh.1.aV [1,1,1,0,1]).aU [0,0] a0)=c)=>c) _ (by conv=>lhs;reduce) aDl
def aPk:CC:=(fun (c:CC->CC->CC) (_:(fun a0 a1=>((aBh.1).aU [1,1,1,0,1] a0).aU [1,1,1,1,1,0] a1)=c)=>c) _ (by conv=>lhs;reduce) aDo aDp
theorem aWe:aZ Tryz.prog 181 aPk [4] 106:=aZ.of Tryz.f181 Tryz.func181 rfl
def a0X:{c:CC // aJ Tryz.prog 182=c}:=⟨_,by conv=>lhs;reduce⟩
def aTP:{c:CC // bA Tryz.prog 182 {} a0X.1 []=c}:=⟨_,by conv=>lhs;reduce⟩
def aDj:CC:=(fun (c:CC) (_:(aTP.1.aV [1,1,0,1,0,0])=c)=>c) _ (by conv=>lhs;reduce)
def aDk:CC:=(fun (c:CC->CC) (_:(fun a0=>(aTP.1.aV [1,1,0,1]).aU [0,0] a0)=c)=>c) _ (by conv=>lhs;reduce) aDj
def aPj:CC:=(fun (c:CC->CC) (_:(fun a0=>(aTP.1).aU [1,1,0,1] a0)=c)=>c) _ (by conv=>lhs;reduce) aDk
theorem aRV:aX Tryz.prog 182 aPj [.ce 6 41 10 true] 34:=aX.of Tryz.f182 Tryz.func182 rfl ⟨by kernel_rfl,trivial⟩
def a0H:{c:CC // aJ Tryz.prog 204=c}:=⟨_,by conv=>lhs;reduce⟩
def aTG:{c:CC // bA Tryz.prog 204 {} a0H.1 []=c}:=⟨_,by conv=>lhs;reduce⟩
def aCP:CC:=(fun (c:CC) (_:(aTG.1.aV [1,1,0,1,0,0])=c)=>c) _ (by conv=>lhs;reduce)
def aCQ:CC:=(fun (c:CC->CC) (_:(fun a0=>(aTG.1.aV [1,1,0,1]).aU [0,0] a0)=c)=>c) _ (by conv=>lhs;reduce) aCP
def aO3:CC:=(fun (c:CC->CC) (_:(fun a0=>(aTG.1).aU [1,1,0,1] a0)=c)=>c) _ (by conv=>lhs;reduce) aCQ
theorem aRP:aX Tryz.prog 204 aO3 [.ce 8 82 9 true,.tm 9] 77:=aX.of Tryz.f204 Tryz.func204 rfl ⟨by kernel_rfl,trivial⟩
def a0r:{c:CC // aJ Tryz.prog 224=c}:=⟨_,by conv=>lhs;reduce⟩
def aTA:{c:CC // bA Tryz.prog 224 {} a0r.1 []=c}:=⟨_,by conv=>lhs;reduce⟩
def aCx:CC:=(fun (c:CC) (_:(aTA.1.aV [1,0,1,0,0])=c)=>c) _ (by conv=>lhs;reduce)
def aCy:CC:=(fun (c:CC->CC) (_:(fun a0=>(aTA.1.aV [1,0,1]).aU [0,0] a0)=c)=>c) _ (by conv=>lhs;reduce) aCx
def aOO:CC:=(fun (c:CC->CC) (_:(fun a0=>(aTA.1).aU [1,0,1] a0)=c)=>c) _ (by conv=>lhs;reduce) aCy
theorem aVW:aZ Tryz.prog 224 aOO [4] 18:=aZ.of Tryz.f224 Tryz.func224 rfl
end Go.Proofs.YtakemdamegfcfaaGreat
