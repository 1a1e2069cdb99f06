/- A part of a proof: what functions of the program compute. No condition. -/
import Derived.Test.YtakemdamegfcfaaGreatT17
import Derived.Test.YtakemdamegfcfaaGreatT23
import Derived.Test.YtakemdamegfcfaaGreatT15
import Derived.Test.YtakemdamegfcfaaGreatT16
import Derived.Test.YtakemdamegfcfaaGreatProg
import Derived.KernelRfl
import Derived.Test.YtakemdamegfcfaaGreatT6
import Derived.Test.YtakemdamegfcfaaGreatT10
import Derived.Test.YtakemdamegfcfaaGreatT22
set_option linter.unusedSimpArgs false
set_option linter.unusedVariables false
set_option maxHeartbeats 16000000
set_option maxRecDepth 100000
namespace Go.Proofs.YtakemdamegfcfaaGreat
open Go Go.Ab
def aBr (n:Nat) (y:AV):Prop:=∃ l:List (List UInt8),y= .sl false 1 (l.map .str)/\l.length<=n+1/\∀ x∈l,x.length<=n
theorem aUS (s:List UInt8) (hs:s.length<=2000) (c:Int):aW Tryz.prog 174 [.str s,.int .u8 c] [] fun y _=>aBr s.length y:=by
 refine cX (aK aWi (by simp) ?_)
 unfold aPq aBr
 refine Ya ?_
 unfold aDA
 refine Ya ?_
 refine aF (σ:=Nat×Nat×List (List UInt8)) (fun z=>⟨[(0,.str s),(1,.int .u8 c),(5,.own 0 1 0 z.2.2.length),(6,.int .i64 (z.2.1:Int)),(7,.int .i64 (z.1:Int))],[.arr 1 (z.2.2.map .str)]⟩) (fun z=>z.1<=s.length/\z.2.1<=z.1/\z.2.2.length<=z.1/\∀ x∈z.2.2,x.length<=s.length) (fun z=>s.length-z.1) (0,0,[]) ?_ ⟨by simp,by simp,by simp,by simp⟩ ?_
 · exact Sub.ofS [none]
 rintro ⟨i,v,L⟩ ⟨hi,hv,hL,hx⟩
 simp only at hi hv hL hx
 unfold aDz
 have hx2:∀ a b:Nat,∀ x∈L++[List.drop a (List.take b s)],x.length<=s.length:=fun a b x hx'=>by
  rcases List.mem_append.1 hx' with h|h
  · exact hx x h
  · rw [List.mem_singleton.1 h]
    simp only [List.length_drop,List.length_take]
    omega
 by_cases hn:i<s.length
 · simp -implicitDefEqProofs(disch:=first|decide|omega)only[↓aA,aC,aB,simprocAttr]
   repeat refine And.intro (by omega) ?_
   refine a8 (fun hb=>?_) (fun hb=>?_)
   · simp -implicitDefEqProofs(disch:=first|decide|omega)only[↓aA,aC,aB,simprocAttr,hb]
     repeat refine And.intro (by omega) ?_
     refine ⟨(i+1,i+1,L++[List.drop v (List.take i s)]),?_,⟨by simp only;omega,by simp only;omega,by simp;omega,hx2 _ _⟩,by simp only;omega⟩
     simp only [List.length_append,List.map_append,List.map_cons,List.map_nil,List.length_cons,List.length_nil]
     exact Sub.ofS [some 2]
   · simp -implicitDefEqProofs(disch:=first|decide|omega)only[↓aA,aC,aB,simprocAttr,hb]
     repeat refine And.intro (by omega) ?_
     refine ⟨(i+1,v,L),.inl rfl,⟨by simp only;omega,by simp only;omega,by simp only;omega,hx⟩,by simp only;omega⟩
 · have:i=s.length:=by omega
   subst this
   by_cases hvl:v<s.length
   · simp -implicitDefEqProofs(disch:=first|decide|omega)only[↓aA,aC,aB,simprocAttr,hvl]
     repeat refine And.intro (by omega) ?_
     refine ⟨_,.refl _,L++[List.drop v s],by rw [List.take_of_length_le (by simp)];simp,by simp;omega,?_⟩
     have:=hx2 v s.length
     rwa [List.take_length] at this
   · refine Xa hvl ?_
     exact ⟨_,.refl _,L,rfl,by omega,hx⟩
theorem aYE (s:List UInt8) (hs:s.length<=2000):aW Tryz.prog 175 [.str s] [] fun y _=>aBr s.length y:=by
 refine cX (aK aWh (by simp) ?_)
 unfold aPp
 refine Ya ?_
 refine aH (aUS s hs _) rfl (by rintro _ ⟨_,rfl,_⟩;rfl) ?_
 rintro _ ⟨K,rfl,hK,hx⟩
 unfold aBr
 refine Ya ?_
 unfold aDy
 refine Ya ?_
 refine aF (σ:=Nat×List (List UInt8)) (fun z=>⟨[(3,.own 0 1 0 z.2.length),(4,.sl false 1 (K.map .str)),(5,.int .i64 (z.1:Int))],[.arr 1 (z.2.map .str)]⟩) (fun z=>z.1<=K.length/\z.2.length<=z.1/\∀ x∈z.2,x∈K) (fun z=>K.length-z.1) (0,[]) ?_ ⟨by simp,by simp,by simp⟩ ?_
 · exact Sub.ofS [none]
 rintro ⟨i,L⟩ ⟨hi,hL,hm⟩
 simp only at hi hL hm
 unfold aDx
 by_cases hn:i<K.length
 · have hg:K.getD i default=K[i]:=by simp [hn]
   simp -implicitDefEqProofs(disch:=first|decide|omega)only[↓aA,aC,aB,simprocAttr,hg]
   repeat refine And.intro (by omega) ?_
   refine a8 (fun hb=>?_) (fun hb=>?_)
   · simp -implicitDefEqProofs(disch:=first|decide|omega)only[↓aA,aC,aB,simprocAttr,hb,hg]
     repeat refine And.intro (by omega) ?_
     refine ⟨(i+1,L++[K[i]]),?_,⟨by simp only;omega,by simp;omega,fun x hx'=>(List.mem_append.1 hx').elim (hm x) fun h=>by rw [List.mem_singleton.1 h];exact List.getElem_mem hn⟩,by simp only;omega⟩
     simp only [List.length_append,List.map_append,List.map_cons,List.map_nil,List.length_cons,List.length_nil]
     exact Sub.ofS [some 2]
   · simp -implicitDefEqProofs(disch:=first|decide|omega)only[↓aA,aC,aB,simprocAttr,hb]
     repeat refine And.intro (by omega) ?_
     refine ⟨(i+1,L),.inl rfl,⟨by simp only;omega,by simp only;omega,hm⟩,by simp only;omega⟩
 · refine Ya ?_
   exact ⟨_,.refl _,L,rfl,by omega,fun x h=>hx x (hm x h)⟩
def aYK (y:AV):Prop:=∃ (n:Int) (b:Bool),y= .tup [.int .i64 n,.bool b]
theorem aUR (s:List UInt8) (hs:s.length<=2000):aW Tryz.prog 191 [.str s] [] fun y _=>aYK y:=by
 refine aK aWb (by simp) ?_
 unfold aPg
 by_cases h1:s.length<1
 · refine Xa h1 ?_
   exact ⟨_,_,rfl⟩
 simp -implicitDefEqProofs(disch:=first|decide|omega)only[↓aA,aC,aB,simprocAttr,h1]
 repeat' first
  | exact ⟨_,_,rfl⟩
  | with_reducible apply And.intro
  | omega
  | (refine bC (fun hb=>?_) (fun hb=>?_)<;>simp -implicitDefEqProofs(disch:=first|decide|omega)only[↓aA,aC,aB,simprocAttr,hb])
  | (refine a8 (fun hb=>?_) (fun hb=>?_)<;>simp -implicitDefEqProofs(disch:=first|decide|omega)only[↓aA,aC,aB,simprocAttr,hb])
 all_goals
  unfold aDg
  refine Ya ?_
  refine aF (σ:=Nat×Int) (fun z=>⟨[(0,.str s),(4,.int .i64 z.2),(5,.int .i64 (z.1:Int))],[]⟩) (fun z=>z.1<=s.length) (fun z=>s.length-z.1) (0,0) (.inl rfl) (by simp) ?_
  rintro ⟨i,n⟩ hi
  simp only at hi
  unfold aDf
  by_cases hn:i<s.length
  · simp -implicitDefEqProofs(disch:=first|decide|omega)only[↓aA,aC,aB,simprocAttr]
    repeat' first
     | exact ⟨_,_,rfl⟩
     | with_reducible apply And.intro
     | omega
     | (refine bC (fun hb=>?_) (fun hb=>?_)<;>simp -implicitDefEqProofs(disch:=first|decide|omega)only[↓aA,aC,aB,simprocAttr,hb])
     | (refine a8 (fun hb=>?_) (fun hb=>?_)<;>simp -implicitDefEqProofs(disch:=first|decide|omega)only[↓aA,aC,aB,simprocAttr,hb])
     | exact ⟨(i+1,_),.inl rfl,by simp only;omega,by simp only;omega⟩
  · refine Ya ?_
    exact ⟨_,_,rfl⟩
def aY6 (y:AV):Prop:=∃ (a b:Int) (c:Bool),y= .tup [.agg [.int .i64 a,.int .i64 b],.bool c]
theorem aYC (s:List UInt8) (hs:s.length<=2000):aW Tryz.prog 192 [.str s] [] fun y _=>aY6 y:=by
 refine aO aRU (by simp) ?_
 unfold aPf
 refine Yb ?_
 unfold aDe
 refine Ya ?_
 refine aF (σ:=Nat) (fun z=>⟨[(0,.str s),(2,.ref 0 0 0),(4,.int .i64 (z:Int))],[.box [.int .i64 0,.int .i64 0]]⟩) (fun z=>z<=s.length) (fun z=>s.length-z) 0 (.inl rfl) (by simp) ?_
 intro i hi
 unfold aDd
 by_cases hn:i<s.length
 · simp -implicitDefEqProofs(disch:=first|decide|omega)only[↓aA,aC,aB,simprocAttr,bB]
   repeat' first
    | exact ⟨_,_,_,rfl⟩
    | with_reducible apply And.intro
    | omega
    | (refine aH (aUR _ (by simp;omega)) rfl (by rintro _ ⟨_,_,rfl⟩;rfl) ?_;rintro _ ⟨nn,bb,rfl⟩;simp -implicitDefEqProofs(disch:=first|decide|omega)only[↓aA,aC,aB,simprocAttr,bB])
    | exact ⟨i+1,.inl rfl,by omega,by omega⟩
    | (refine bC (fun hb=>?_) (fun hb=>?_)<;>simp -implicitDefEqProofs(disch:=first|decide|omega)only[↓aA,aC,aB,simprocAttr,hb,bB])
    | (refine a8 (fun hb=>?_) (fun hb=>?_)<;>simp -implicitDefEqProofs(disch:=first|decide|omega)only[↓aA,aC,aB,simprocAttr,hb,bB])
 · have:i=s.length:=by omega
   subst this
   simp -implicitDefEqProofs(disch:=first|decide|omega)only[↓aA,aC,aB,simprocAttr,bB]
   repeat' first
    | exact ⟨_,_,_,rfl⟩
    | with_reducible apply And.intro
    | omega
def aQG (n:Nat) (y:AV):Prop:=∃ (q:Queue) (b:Bool),y= .tup [QUE q,.bool b]/\q.path.length<=2000/\q.caps.length<=n
set_option maxHeartbeats 1000000 in
theorem aYD (w:List (List UInt8)) (hw:w.length<=2001) (hx:∀ x∈w,x.length<=2000) (k:Int) (hk:1<=k/\k<=3000):aW Tryz.prog 176 [.sl false 1 (w.map .str),.int .i64 k] [] fun y _=>aQG w.length y:=by
 have hxd:∀ i,(w.getD i default).length<=2000:=fun i=>by
  rw [List.getD_eq_getElem?_getD]
  cases e:w[i]? with
  | none=>simp;decide
  | some x=>exact hx x (List.mem_of_getElem? e)
 have bad:∃ y,Wk4 (.tup [.agg [.str [],.aD,.int .i64 0],.bool false]) y/\aQG w.length y:=⟨.tup [QUE ⟨[],[],0⟩,.bool false],.aQi ⟨.aKn ⟨.refl _,.nil,.refl _,trivial⟩ (by simp [jU,AV.one]),.refl _,trivial⟩,⟨[],[],0⟩,false,rfl,by simp,by simp⟩
 refine cX (aO aMK (by simp) ?_)
 unfold aOh
 by_cases h3:(w.length:Int)=3+k
 case neg =>
  refine Xb h3 ?_
  exact bad
 have hw3:3<w.length:=by omega
 simp -implicitDefEqProofs(disch:=first|decide|omega)only[↓aA,aC,aB,simprocAttr,bB,h3]
 repeat' first
  | exact bad
  | with_reducible apply And.intro
  | omega
  | (refine aH (aUR _ (hxd _)) rfl (by rintro _ ⟨_,_,rfl⟩;rfl) ?_;rintro _ ⟨nn,bb,rfl⟩;simp -implicitDefEqProofs(disch:=first|decide|omega)only[↓aA,aC,aB,simprocAttr,bB])
  | (refine bC (fun hb=>?_) (fun hb=>?_)<;>simp -implicitDefEqProofs(disch:=first|decide|omega)only[↓aA,aC,aB,simprocAttr,hb,bB])
  | (refine a8 (fun hb=>?_) (fun hb=>?_)<;>simp -implicitDefEqProofs(disch:=first|decide|omega)only[↓aA,aC,aB,simprocAttr,hb,bB])
 unfold aBX
 refine Ya ?_
 refine aF (σ:=Nat×Bool×List Cap) (fun z=>⟨[(0,.sl false 1 (w.map .str)),(4,.ref 0 0 0),(7,.bool z.2.1),(8,.ref 1 0 0),(9,.int .i64 (z.1:Int))],[.box [.str [],.aD,.int .i64 0],.box [.str (w.getD 1 default),.own 2 2 0 z.2.2.length,.int .i64 nn],.arr 2 (z.2.2.map CAP)]⟩) (fun z=>3<=z.1/\z.1<=w.length/\z.2.2.length<=z.1) (fun z=>w.length-z.1) (3,bb,[]) ?_ ⟨by simp,by simp only;omega,by simp⟩ ?_
 · exact Sub.ofS [some 0,some 1,none]
 rintro ⟨i,b,C⟩ ⟨h3i,hi,hC⟩
 simp only at h3i hi hC
 unfold aBW
 have fin:∃ y,Wk4 (.tup [.agg [.str (w.getD 1 default),.sl false 2 (C.map CAP),.int .i64 nn],.bool b]) y/\aQG w.length y:=⟨_,.refl _,⟨w.getD 1 default,C,nn⟩,b,rfl,hxd 1,by simp only;omega⟩
 by_cases hn:i<w.length
 case neg =>
  refine Yb ?_
  refine dF 2 rfl ?_
  refine Yn ?_
  refine dZ ?_
  refine Yb ?_
  exact fin
 cases b
 · refine Yb ?_
   refine dF 2 rfl ?_
   refine Yn ?_
   refine dZ ?_
   refine Yb ?_
   exact fin
 · simp -implicitDefEqProofs(disch:=first|decide|omega)only[↓aA,aC,aB,simprocAttr,bB]
   repeat refine And.intro (by omega) ?_
   refine aH (aYC _ (hxd i)) rfl (by rintro _ ⟨_,_,_,rfl⟩;rfl) ?_
   rintro _ ⟨a1,a2,c,rfl⟩
   simp -implicitDefEqProofs(disch:=first|decide|omega)only[↓aA,aC,aB,simprocAttr,bB]
   repeat refine And.intro (by omega) ?_
   refine ⟨(i+1,c,C++[(⟨a1,a2⟩:Cap)]),?_,⟨by simp only;omega,by simp only;omega,by simp;omega⟩,by simp only;omega⟩
   have e:(C++[(⟨a1,a2⟩:Cap)]).map CAP=List.map CAP C++[.agg [.int .i64 a1,.int .i64 a2]]:=by simp [CAP,mP]
   simp only [e,List.length_append,List.length_cons,List.length_nil,Nat.zero_add]
   exact Sub.ofS [some 0,some 1,some 5]
def lvP (v:AV):Prop:=v= .aD∨∃ ls:List (List UInt8),v= .sl false 1 (ls.map .str)/\1<=ls.length/\ls.length<=3/\∀ x∈ls,x.length<=2000
def qlP (n:Nat) (qs:List Queue):Prop:=qs.length<=n/\∀ q∈qs,q.path.length<=2000/\q.caps.length<=3000
def aQQ (y:AV):Prop:=∃ ls qs,∃ e:Int,y= .tup [.agg (bN ls qs),.int .i64 e]/\C0 ls qs
theorem aLw {n:Nat} {v:AV} {qs:List Queue} (hv:lvP v) (hq:qlP n qs) (hn:n<=3000) (e:Int):∃ y,Wk4 (.tup [.agg [v,.sl false 3 (qs.map QUE)],.int .i64 e]) y/\aQQ y:=by
 obtain ⟨ls,h1,h2,h3⟩:∃ ls:List (List UInt8),Wk4 v (.sl false 1 (ls.map .str))/\ls.length<=3/\∀ x∈ls,x.length<=2000:=by
  rcases hv with rfl|⟨ls,rfl,_,h2,h3⟩
  · exact ⟨[],.nil,by simp,by simp⟩
  · exact ⟨ls,.refl _,h2,h3⟩
 exact ⟨.tup [.agg (bN ls qs),.int .i64 e],.aQi ⟨.aKn ⟨h1,.refl _,trivial⟩ (by simp [bN,AV.one]),.refl _,trivial⟩,ls,qs,e,rfl,by omega,h3,by have:=hq.1;omega,hq.2⟩
set_option maxHeartbeats 2000000 in
theorem aYF (s:List UInt8) (hs:s.length<2^60):aW Tryz.prog 147 [.str s] [] fun y _=>aQQ y:=by
 have bad:∀ e:Int,∃ y,Wk4 (.tup [.agg [.aD,.aD],.int .i64 e]) y/\aQQ y:=fun e=>⟨.tup [.agg (bN [] []),.int .i64 e],.aQi ⟨.aKn ⟨.nil,.nil,trivial⟩ (by simp [bN,AV.one]),.refl _,trivial⟩,[],[],e,rfl,by simp,by simp,by simp,by simp⟩
 refine cX (aO aML (by simp) ?_)
 unfold aOi
 by_cases h0:2000<s.length
 · refine Yb ?_
   exact bad _
 have hs2:s.length<=2000:=by omega
 refine Yb ?_
 refine aH (aUS s hs2 _) rfl (by rintro _ ⟨_,rfl,_⟩;rfl) ?_
 rintro _ ⟨K,rfl,hK,hx⟩
 refine Yb ?_
 unfold aB0
 refine Ya ?_
 refine aF (σ:=Nat×Bool×AV×List Queue) (fun z=>⟨[(2,.ref 0 0 0),(4,.ref 1 0 0),(5,.bool z.2.1),(6,.sl false 1 (K.map .str)),(7,.int .i64 (z.1:Int))],[.box [.aD,.aD],.box [z.2.2.1,.own 2 3 0 z.2.2.2.length],.arr 3 (z.2.2.2.map QUE)]⟩) (fun z=>z.1<=K.length/\lvP z.2.2.1/\qlP z.1 z.2.2.2) (fun z=>K.length-z.1) (0,false,.aD,[]) ?_ ⟨by simp,.inl rfl,by simp,by simp⟩ ?_
 · exact Sub.ofS [some 0,some 1,none]
 rintro ⟨i,tw,v,qs⟩ ⟨hi,hv,hq⟩
 simp only at hi hv hq
 have hqn:=hq.1
 unfold aBY
 by_cases hn:i<K.length
 case neg =>
  have hpf:=aLw hv hq (by omega)
  rcases hv with rfl|⟨ls,rfl,hl1,hl3,hlx⟩
  · refine Yb ?_
    exact bad _
  · cases tw
    · refine Yb ?_
      refine dF 2 rfl ?_
      refine Yn ?_
      refine dZ ?_
      refine Yb ?_
      exact hpf _
    · refine Yb ?_
      exact bad _
 have hg:K.getD i default=K[i]:=by simp [hn]
 have hx1:K[i].length<=2000:=Nat.le_trans (hx _ (List.getElem_mem hn)) hs2
 simp -implicitDefEqProofs(disch:=first|decide|omega)only[↓aA,aC,aB,simprocAttr,bB,hg]
 repeat refine And.intro (by omega) ?_
 refine aH (aYE _ hx1) rfl (by rintro _ ⟨_,rfl,_⟩;rfl) ?_
 rintro _ ⟨W,rfl,hW,hWx⟩
 by_cases hW0:W.length=0
 · simp -implicitDefEqProofs(disch:=first|decide|omega)only[↓aA,aC,aB,simprocAttr,bB,hW0]
   exact ⟨(i+1,tw,v,qs),.inl rfl,⟨by simp only;omega,hv,by simp only;omega,hq.2⟩,by simp only;omega⟩
 have hwx:∀ x∈W,x.length<=2000:=fun x h=>Nat.le_trans (hWx x h) hx1
 rcases hv with rfl|⟨ls,rfl,hl1,hl3,hlx⟩
 · simp -implicitDefEqProofs(disch:=first|decide|omega)only[↓aA,aC,aB,simprocAttr,bB,hW0]
   repeat refine And.intro (by omega) ?_
   refine a8 (fun hb=>?_) (fun hb=>?_)
   · refine Xb hb ?_
     exact bad _
   by_cases h3:3<W.length
   · refine Xb hb ?_
     exact bad _
   simp -implicitDefEqProofs(disch:=first|decide|omega)only[↓aA,aC,aB,simprocAttr,bB,hb]
   repeat refine And.intro (by omega) ?_
   have e1:1+(W.length-1)<=W.length-1+1:=by omega
   have e2:List.take (1+(W.length-1)) (AV.str [] :: List.map AV.str (List.drop 1 W))=([] :: W.drop 1).map AV.str:=by
    rw [List.take_of_length_le (by simp;omega)]
    rfl
   simp only [if_pos e1,e2]
   refine Yb ?_
   refine ⟨(i+1,tw,.sl false 1 (AV.str [] :: (W.drop 1).map AV.str),qs),?_,⟨by simp only;omega,.inr ⟨[] :: W.drop 1,rfl,by simp,by simp;omega,fun x h=>?_⟩,by simp only;omega,hq.2⟩,by simp only;omega⟩
   · exact Sub.ofS [some 0,some 1,some 2]
   rcases List.mem_cons.1 h with rfl|h
   · simp
   · exact hwx x (List.mem_of_mem_drop h)
 · simp -implicitDefEqProofs(disch:=first|decide|omega)only[↓aA,aC,aB,simprocAttr,bB,hW0]
   repeat' first
    | exact bad _
    | with_reducible apply And.intro
    | omega
    | (refine aH (aYD W (by omega) hwx _ ⟨by omega,by omega⟩) rfl (by rintro _ ⟨_,_,rfl,_⟩;rfl) ?_
       rintro _ ⟨q,b,rfl,hqp,hqc⟩
       cases b<;>simp -implicitDefEqProofs(disch:=first|decide|omega)only[↓aA,aC,aB,simprocAttr,bB,bW])
    | (refine bC (fun hb=>?_) (fun hb=>?_)<;>simp -implicitDefEqProofs(disch:=first|decide|omega)only[↓aA,aC,aB,simprocAttr,hb,bB])
    | (refine a8 (fun hb=>?_) (fun hb=>?_)<;>simp -implicitDefEqProofs(disch:=first|decide|omega)only[↓aA,aC,aB,simprocAttr,hb,bB])
   all_goals
    unfold aB1
    refine Ya ?_
    refine aF (σ:=Nat) (fun k=>⟨[(2,.ref 0 0 0),(4,.ref 1 0 0),(5,.bool tw),(6,.sl false 1 (K.map .str)),(7,.int .i64 (i:Int)),(9,.ref 2 0 0),(11,.int .i64 (k:Int))],[.box [.aD,.aD],.box [.sl false 1 (ls.map .str),.own 3 3 0 qs.length],.box (jU q),.arr 3 (qs.map QUE)]⟩) (fun k=>k<=qs.length) (fun k=>qs.length-k) 0 ?_ (by omega) ?_
    · exact Sub.ofS [some 0,some 1,some 3,some 2]
    intro k hk
    unfold aBZ
    have eL:List.take (min (k-0) qs.length+1) (List.map QUE (List.take (min (k-0) qs.length) (List.take (k-0) qs))++[QUE q])++List.map QUE (List.take (qs.length-k) (List.drop k qs))=(qs.take k++[q]++qs.drop k).map QUE:=by
     simp [List.take_of_length_le,Nat.min_eq_left hk]
    have eN:min (k-0) qs.length+1+(qs.length-k)=(qs.take k++[q]++qs.drop k).length:=by simp;omega
    have hq2:qlP (i+1) (qs.take k++[q]++qs.drop k):=⟨by simp;omega,fun x hx=>by
     simp only [List.mem_append,List.mem_singleton] at hx
     rcases hx with (hx|rfl)|hx
     · exact hq.2 x (List.mem_of_mem_take hx)
     · exact ⟨hqp,by omega⟩
     · exact hq.2 x (List.mem_of_mem_drop hx)⟩
    have hk0:(k-0<=qs.length)=True:=eq_true (by omega)
    have hk1:(k+(qs.length-k)<=qs.length)=True:=eq_true (by omega)
    by_cases hkl:k<qs.length
    · have hgk:qs.getD k default=qs[k]:=by simp [hkl]
      simp -implicitDefEqProofs(disch:=first|decide|omega)only[↓aA,aC,aB,simprocAttr,bB,bW,hgk,hk0,hk1]
      repeat' first
       | with_reducible apply And.intro
       | omega
       | exact ⟨k+1,.inl rfl,by omega,by omega⟩
       | (refine bC (fun hb=>?_) (fun hb=>?_)<;>simp -implicitDefEqProofs(disch:=first|decide|omega)only[↓aA,aC,aB,simprocAttr,hb,bB,bW,hgk,hk0,hk1])
       | (refine a8 (fun hb=>?_) (fun hb=>?_)<;>simp -implicitDefEqProofs(disch:=first|decide|omega)only[↓aA,aC,aB,simprocAttr,hb,bB,bW,hgk,hk0,hk1])
      all_goals
       rw [eL,eN]
       generalize qs.take k++[q]++qs.drop k=L at hq2
       first
        | (refine ⟨(i+1,true,.sl false 1 (ls.map .str),L),?_,⟨by simp only;omega,.inr ⟨ls,rfl,hl1,hl3,hlx⟩,hq2⟩,by simp only;omega⟩;(refine Sub.of0 [some 0,some 1,some 8] rfl ?_ rfl ?_<;>repeat' first|trivial|rfl|exact .inl rfl|exact .inr ⟨rfl,_,_,rfl⟩|(simp;done)|(simp;omega)|refine And.intro ?_ ?_);done)
        | (refine ⟨(i+1,false,.sl false 1 (ls.map .str),L),?_,⟨by simp only;omega,.inr ⟨ls,rfl,hl1,hl3,hlx⟩,hq2⟩,by simp only;omega⟩;(refine Sub.of0 [some 0,some 1,some 8] rfl ?_ rfl ?_<;>repeat' first|trivial|rfl|exact .inl rfl|exact .inr ⟨rfl,_,_,rfl⟩|(simp;done)|(simp;omega)|refine And.intro ?_ ?_);done)
        | (refine ⟨(i+1,(qs[k].path==q.path),.sl false 1 (ls.map .str),L),?_,⟨by simp only;omega,.inr ⟨ls,rfl,hl1,hl3,hlx⟩,hq2⟩,by simp only;omega⟩;(refine Sub.of0 [some 0,some 1,some 8] rfl ?_ rfl ?_<;>repeat' first|trivial|rfl|exact .inl rfl|exact .inr ⟨rfl,_,_,rfl⟩|(simp;done)|(simp;omega)|refine And.intro ?_ ?_);done)
    · simp -implicitDefEqProofs(disch:=first|decide|omega)only[↓aA,aC,aB,simprocAttr,bB,bW,hk0,hk1]
      repeat' first
       | with_reducible apply And.intro
       | omega
       | (refine bC (fun hb=>?_) (fun hb=>?_)<;>simp -implicitDefEqProofs(disch:=first|decide|omega)only[↓aA,aC,aB,simprocAttr,hb,bB,bW,hk0,hk1])
       | (refine a8 (fun hb=>?_) (fun hb=>?_)<;>simp -implicitDefEqProofs(disch:=first|decide|omega)only[↓aA,aC,aB,simprocAttr,hb,bB,bW,hk0,hk1])
      all_goals
       rw [eL,eN]
       generalize qs.take k++[q]++qs.drop k=L at hq2
       first
        | (refine ⟨(i+1,true,.sl false 1 (ls.map .str),L),?_,⟨by simp only;omega,.inr ⟨ls,rfl,hl1,hl3,hlx⟩,hq2⟩,by simp only;omega⟩;(refine Sub.of0 [some 0,some 1,some 8] rfl ?_ rfl ?_<;>repeat' first|trivial|rfl|exact .inl rfl|exact .inr ⟨rfl,_,_,rfl⟩|(simp;done)|(simp;omega)|refine And.intro ?_ ?_);done)
        | (refine ⟨(i+1,false,.sl false 1 (ls.map .str),L),?_,⟨by simp only;omega,.inr ⟨ls,rfl,hl1,hl3,hlx⟩,hq2⟩,by simp only;omega⟩;(refine Sub.of0 [some 0,some 1,some 8] rfl ?_ rfl ?_<;>repeat' first|trivial|rfl|exact .inl rfl|exact .inr ⟨rfl,_,_,rfl⟩|(simp;done)|(simp;omega)|refine And.intro ?_ ?_);done)
def R14:{c:CC // aJ Tryz.prog 14=c}:=⟨_,by conv=>lhs;reduce⟩
def S14:{c:CC // bA Tryz.prog 14 {} R14.1 []=c}:=⟨_,by conv=>lhs;reduce⟩
def aXU:CC:=(fun (c:CC) (_:(S14.1)=c)=>c) _ (by conv=>lhs;reduce)
theorem aY0:aZ Tryz.prog 14 aXU [2] 13:=aZ.of Tryz.f14 Tryz.func14 rfl
def R15:{c:CC // aJ Tryz.prog 15=c}:=⟨_,by conv=>lhs;reduce⟩
def S15:{c:CC // bA Tryz.prog 15 {} R15.1 [([1,1,0],(.p [1,3,0,2,4] (.p [2005] (.p [2006,7] (.p [2008,9,10,11] (.f [12,13,14,15]) (.f [13,12,14,15])) (.p [] (.f [12,13,2008,9,10,11,14,15]) (.f [13,12,2008,9,10,11,14,15]))) (.p [] (.f [12,13,2006,7,2008,9,10,11,14,15]) (.f [13,12,2006,7,2008,9,10,11,14,15]))) (.p [] (.f [12,13,2005,2006,7,2008,9,10,11,14,15]) (.f [13,12,2005,2006,7,2008,9,10,11,14,15])))),([1,1,1,1,0,1,0,0,1,0,0],(.f [1,3,0,2,4,1005,6,2007,2008,9,10,11,12]))]=c}:=⟨_,by conv=>lhs;reduce⟩
def aAY:CC:=(fun (c:CC) (_:(S15.1.aV [1,1,1,1,0,1,0,0])=c)=>c) _ (by conv=>lhs;reduce)
def aAZ:CC:=(fun (c:CC->CC) (_:(fun a0=>(S15.1.aV [1,1,1,1,0,1]).aU [0,0] a0)=c)=>c) _ (by conv=>lhs;reduce) aAY
def tT:CC:=(fun (c:CC->CC) (_:(fun a0=>(S15.1.aV [1,1,1,1]).aU [0,1] a0)=c)=>c) _ (by conv=>lhs;reduce) aAZ
def aXT:CC:=(fun (c:CC->CC) (_:(fun a0=>(S15.1).aU [1,1,1,1] a0)=c)=>c) _ (by conv=>lhs;reduce) tT
theorem aVB:aX Tryz.prog 15 aXT [.ce 2 41 10 true] 44:=aX.of Tryz.f15 Tryz.func15 rfl ⟨by kernel_rfl,trivial⟩
def R54:{c:CC // aJ Tryz.prog 54=c}:=⟨_,by conv=>lhs;reduce⟩
def S54:{c:CC // bA Tryz.prog 54 { fz:=[(false,6,[1,5])] } R54.1 []=c}:=⟨_,by conv=>lhs;reduce⟩
def aXA:CC:=(fun (c:CC) (_:(S54.1)=c)=>c) _ (by conv=>lhs;reduce)
theorem aVm:aX Tryz.prog 54 aXA [.ce 0 41 10 true] 8:=aX.of Tryz.f54 Tryz.func54 rfl ⟨by kernel_rfl,trivial⟩
def R55:{c:CC // aJ Tryz.prog 55=c}:=⟨_,by conv=>lhs;reduce⟩
def S55:{c:CC // bA Tryz.prog 55 {} R55.1 []=c}:=⟨_,by conv=>lhs;reduce⟩
def aXz:CC:=(fun (c:CC) (_:(S55.1)=c)=>c) _ (by conv=>lhs;reduce)
theorem aVl:aX Tryz.prog 55 aXz [.ce 4 41 10 true,.ce 5 94 5 true] 135:=aX.of Tryz.f55 Tryz.func55 rfl ⟨by kernel_rfl,by kernel_rfl,trivial⟩
def a1N:{c:CC // aJ Tryz.prog 100=c}:=⟨_,by conv=>lhs;reduce⟩
def aKz:{c:CC // bA Tryz.prog 100 {} a1N.1 [([1,1,1,1,1,1,0,1,0,0,1,0,0,0],(.f [0,2,1,3,4,5,6,8,10,7,9,11,12,13,14,15,16]))]=c}:=⟨_,by conv=>lhs;reduce⟩
def aED:CC:=(fun (c:CC) (_:(aKz.1.aV [1,1,1,1,1,1,0,1,0,0])=c)=>c) _ (by conv=>lhs;reduce)
def aEF:CC:=(fun (c:CC->CC) (_:(fun a0=>(aKz.1.aV [1,1,1,1,1,1,0,1]).aU [0,0] a0)=c)=>c) _ (by conv=>lhs;reduce) aED
def aEC:CC:=(fun (c:CC) (_:(aKz.1.aV [1,1,1,1,1,0,1,0,0])=c)=>c) _ (by conv=>lhs;reduce)
def aEE:CC:=(fun (c:CC->CC) (_:(fun a0=>(aKz.1.aV [1,1,1,1,1,0,1]).aU [0,0] a0)=c)=>c) _ (by conv=>lhs;reduce) aEC
def aP8:CC:=(fun (c:CC->CC->CC) (_:(fun a0 a1=>((aKz.1).aU [1,1,1,1,1,0,1] a0).aU [1,1,1,1,1,1,0,1] a1)=c)=>c) _ (by conv=>lhs;reduce) aEE aEF
theorem aSd:aX Tryz.prog 100 aP8 [.ce 4 41 10 true,.ce 5 94 5 true] 94:=aX.of Tryz.f100 Tryz.func100 rfl ⟨by kernel_rfl,by kernel_rfl,trivial⟩
theorem aIT {ls:List (List UInt8)} {qs:List Queue} (h0:C0 ls qs) (h:e95 ls qs=0):CKK ls qs:=by
 have ht:=aIE h
 refine ⟨ht,aUz h,?_,fun q hq hz=>?_⟩
 · have:=aJY ls qs h0
   rwa [h] at this
 · obtain ⟨i,hi,rfl⟩:=List.getElem_of_mem hq
   have h1:=(y9 ((aFR h).2.2 i hi)).1
   have h2:qs.getD i default=qs[i]:=by simp [hi]
   rw [h2,hz] at h1
   exact absurd h1 (by decide)
set_option maxHeartbeats 2000000 in
theorem aH1 {B:Nat} (s:Sta) (h:II B s) (hB:B<=2^39) (x:List UInt8) (hx:x.length<=4000):aW Tryz.prog 100 [.agg (stC s),.str x] [] fun y _=>eZ B y:=by
 have K:=okS h hB
 have bad:∀ e:Int,∃ y,Wk4 (.tup [.agg (stC s),.agg [.int .i64 e,.aD,.aD,.aD,.int .i64 0]]) y/\eZ B y:=fun e=>cO h e 0 (.inl rfl) (.inl rfl) (.inl rfl)
 refine cX (aO aSd (by simp) ?_)
 unfold aP8
 refine Yb ?_
 refine aH (aYF x (by omega)) rfl (by rintro _ ⟨_,_,_,rfl,_⟩;rfl) ?_
 rintro _ ⟨ls,qs,e,rfl,hc0⟩
 have c95:=aJY ls qs hc0
 unfold bN at c95
 by_cases he:e=0
 case neg =>
  simp -implicitDefEqProofs(disch:=first|decide|omega)only[↓aA,aC,aB,simprocAttr,bB,bN,he]
  refine aE (aI.of (aM:=false) (dJ s e) (.refl rfl) rfl (by simp)) ?_
  refine Yb ?_
  exact bad e
 simp -implicitDefEqProofs(disch:=first|decide|omega)only[↓aA,aC,aB,simprocAttr,bB,bN,he]
 refine aE (aI.of (aM:=false) (c95) (.refl rfl) rfl (by simp)) ?_
 by_cases h0:e95 ls qs=0
 case neg =>
  refine Xb h0 ?_
  refine aE (aI.of (aM:=false) (dJ s (e95 ls qs)) (.refl rfl) rfl (by simp)) ?_
  refine Yb ?_
  exact bad _
 have hck:=aIT hc0 h0
 have hct:=hck.t
 have l3:=hct.l3
 have sl3:=K.st.c.l3
 by_cases hll:ls.length<s.labels.length
 · refine Xb h0 ?_
   refine aE (aI.of (aM:=false) (dJ s 14) (.refl rfl) rfl (by simp)) ?_
   refine Yb ?_
   exact bad 14
 refine Xb h0 ?_
 unfold aEE
 refine Ya ?_
 refine aF (σ:=Nat) (fun i=>⟨[(2,.ref 0 0 0),(4,.ref 1 0 0),(5,.ref 2 0 0),(6,.ref 3 0 0),(8,.int .i64 (i:Int))],[.box (stC s),.box [.aD,.aD,.aD,.aD,.aD,.aD,.aD,.int .i64 0,.int .i64 0,.int .i64 0],.box [.int .i64 0,.aD,.aD,.aD,.int .i64 0],.box (bN ls qs)]⟩) (fun i=>i<=s.labels.length) (fun i=>s.labels.length-i) 0 (.inl rfl) (by omega) ?_
 intro i hi
 unfold aEC
 by_cases hil:i<s.labels.length
 · cases hq:ls.getD i default==s.labels.getD i default
   · simp -implicitDefEqProofs(disch:=first|decide|omega)only[↓aA,aC,aB,simprocAttr,bB,bN,hq,Bool.not_false]
     repeat refine And.intro (by omega) ?_
     refine aE (aI.of (aM:=false) (dJ s 14) (.refl rfl) rfl (by simp)) ?_
     refine Yb ?_
     exact bad 14
   · simp -implicitDefEqProofs(disch:=first|decide|omega)only[↓aA,aC,aB,simprocAttr,bB,bN,hq,Bool.not_true]
     repeat refine And.intro (by omega) ?_
     exact ⟨i+1,.inl rfl,by omega,by omega⟩
 simp -implicitDefEqProofs(disch:=first|decide|omega)only[↓aA,aC,aB,simprocAttr,bB,bN]
 unfold aEF
 refine Ya ?_
 have ha16:=h.aL
 refine aF (σ:=Nat) (fun i=>⟨[(2,.ref 0 0 0),(4,.ref 1 0 0),(5,.ref 2 0 0),(6,.ref 3 0 0),(9,.int .i64 (i:Int))],[.box (stC s),.box [.aD,.aD,.aD,.aD,.aD,.aD,.aD,.int .i64 0,.int .i64 0,.int .i64 0],.box [.int .i64 0,.aD,.aD,.aD,.int .i64 0],.box (bN ls qs)]⟩) (fun i=>i<=s.apps.length/\∀ j,(hj:j<i)->(h:j<s.apps.length)->live s.apps[j]=true->iM qs s.apps[j].queue=true) (fun i=>s.apps.length-i) 0 (.inl rfl) ⟨by omega,fun j h=>by omega⟩ ?_
 rintro j ⟨hj,hall⟩
 unfold aED
 by_cases hjl:j<s.apps.length
 · have hg:s.apps.getD j default=s.apps[j]:=by simp [hjl]
   have c69:=sQ ls qs hc0.qz s.apps[j].queue
   unfold bN at c69
   simp -implicitDefEqProofs(disch:=first|decide|omega)only[↓aA,aC,aB,simprocAttr,bB,a9,bN,hg]
   repeat refine And.intro (by omega) ?_
   refine aE (aI.of (aM:=false) (fX s.apps[j]) (.refl rfl) rfl (by simp)) ?_
   cases hl:live s.apps[j]
   · simp -implicitDefEqProofs(disch:=first|decide|omega)only[↓aA,aC,aB,simprocAttr,bB,a9,bN,hg]
     repeat refine And.intro (by omega) ?_
     refine ⟨j+1,.inl rfl,⟨by omega,fun k hk h2 h3=>?_⟩,by omega⟩
     by_cases hkj:k=j
     · subst hkj;rw [hl] at h3;cases h3
     · exact hall k (by omega) h2 h3
   · simp -implicitDefEqProofs(disch:=first|decide|omega)only[↓aA,aC,aB,simprocAttr,bB,a9,bN,hg]
     repeat refine And.intro (by omega) ?_
     refine aE (aI.of (aM:=false) (c69) (.refl rfl) rfl (by simp)) ?_
     cases hlf:iM qs s.apps[j].queue
     · simp -implicitDefEqProofs(disch:=first|decide|omega)only[↓aA,aC,aB,simprocAttr,bB]
       repeat refine And.intro (by omega) ?_
       refine aE (aI.of (aM:=false) (dJ s 14) (.refl rfl) rfl (by simp)) ?_
       refine Yb ?_
       exact bad 14
     · simp -implicitDefEqProofs(disch:=first|decide|omega)only[↓aA,aC,aB,simprocAttr,bB]
       repeat refine And.intro (by omega) ?_
       refine ⟨j+1,.inl rfl,⟨by omega,fun k hk h2 h3=>?_⟩,by omega⟩
       by_cases hkj:k=j
       · subst hkj;exact hlf
       · exact hall k (by omega) h2 h3
 simp -implicitDefEqProofs(disch:=first|decide|omega)only[↓aA,aC,aB,simprocAttr,bB,bN]
 refine cO (s':={ s with labels:=ls,qs:=qs }) ?_ 0 0 (.inl rfl) (.inl rfl) (.inl rfl)
 refine aIR h hck (by omega) fun a ha hl=>?_
 obtain ⟨k,hk,rfl⟩:=List.getElem_of_mem ha
 exact hall k (by omega) hk hl
end Go.Proofs.YtakemdamegfcfaaGreat
