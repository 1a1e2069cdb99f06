/- A part of a proof: what functions of the program compute. No condition. -/
import Derived.Test.YtakemdamegfcfaaGreatT21
import Derived.Test.YtakemdamegfcfaaGreatT17
import Derived.Test.YtakemdamegfcfaaGreatT18
import Derived.Test.YtakemdamegfcfaaGreatProg
import Derived.KernelRfl
import Derived.Test.YtakemdamegfcfaaGreatT6
import Derived.Test.YtakemdamegfcfaaGreatT10
set_option linter.unusedSimpArgs false
set_option linter.unusedVariables false
set_option maxHeartbeats 16000000
set_option maxRecDepth 100000
namespace Go.Proofs.YtakemdamegfcfaaGreat
open Go Go.Ab
theorem aKV {ng:Bool} {a b c d:Int} {K:AV->Prop}:aGO ng [.int .i64 0,.int .i64 0] (.agg [.int .i64 a,.int .i64 b]) (.agg [.int .i64 c,.int .i64 d]) K=K (.bool (if ng then !((a,b)==(c,d)) else (a,b)==(c,d))):=by
 have e:eC [.int .i64 0,.int .i64 0] [.int .i64 a,.int .i64 b] [.int .i64 c,.int .i64 d]=some ((a,b)==(c,d)):=by
  simp only [eC,xH]
  simp [BEq.beq,instBEqOfDecidableEq]
 show (∃ x,eC [.int .i64 0,.int .i64 0] [.int .i64 a,.int .i64 b] [.int .i64 c,.int .i64 d]=some x/\K (.bool (if ng then !x else x)))=_
 rw [e]
 simp
theorem xT (a:Int):aT Tryz.prog 183 [.int .i64 a] (.bool (decide (0<=a/\a<=2^30))):=by
 unfold aT
 refine aK aWd (by simp) ?_
 unfold aPi
 by_cases h:0<=a
 · simp -implicitDefEqProofs(disch:=first|decide|omega)only[↓aA,aC,aB,simprocAttr,h]
 · simp -implicitDefEqProofs(disch:=first|decide|omega)only[↓aA,aC,aB,simprocAttr,h]
def aAe (p:dR) (y:AV):Prop:=∃ a b:Int,y= .tup [.int .i64 a,.int .i64 b]/\(b=0->wZ p)
set_option maxHeartbeats 1000000 in
theorem aHf (l:List dR) (hl:l.length<=12) (t1 t2:Int) (p:dR) (long:Int) :
 aW Tryz.prog 158 [.sl false 6 (l.map eD),.agg [.int .i64 t1,.int .i64 t2],eD p,.int .i64 long] [] fun y _=>aAe p y:=by
 have fin:aAe p (.tup [.int .i64 0,.int .i64 1]):=⟨0,1,rfl,fun h=>absurd h (by decide)⟩
 have hm:=xT p.mem
 have hc:=xT p.cores
 refine aK aWm (by simp) ?_
 unfold aPv
 by_cases c1:long<1
 · simp -implicitDefEqProofs(disch:=first|decide|omega)only[↓aA,aC,aB,simprocAttr,bB,bG,c1]
   exact fin
 by_cases c2:long>1000
 · simp -implicitDefEqProofs(disch:=first|decide|omega)only[↓aA,aC,aB,simprocAttr,bB,bG,c1,c2]
   exact fin
 by_cases c3:p.frm<0
 · simp -implicitDefEqProofs(disch:=first|decide|omega)only[↓aA,aC,aB,simprocAttr,bB,bG,c1,c2,c3]
   exact fin
 by_cases c4:p.frm>1000000
 · simp -implicitDefEqProofs(disch:=first|decide|omega)only[↓aA,aC,aB,simprocAttr,bB,bG,c1,c2,c3,c4]
   exact fin
 by_cases c5:p.til<0
 · simp -implicitDefEqProofs(disch:=first|decide|omega)only[↓aA,aC,aB,simprocAttr,bB,bG,c1,c2,c3,c4,c5]
   exact fin
 by_cases c6:p.til>1000000
 · simp -implicitDefEqProofs(disch:=first|decide|omega)only[↓aA,aC,aB,simprocAttr,bB,bG,c1,c2,c3,c4,c5,c6]
   exact fin
 simp -implicitDefEqProofs(disch:=first|decide|omega)only[↓aA,aC,aB,simprocAttr,bB,bG,c1,c2,c3,c4,c5,c6]
 by_cases c7:0<=p.mem/\p.mem<=2^30
 case neg =>
  rw [decide_eq_false c7] at hm
  refine aE (aI.of (aM:=false) (hm) (.refl rfl) rfl (by simp)) ?_
  refine Yd ?_
  exact fin
 rw [decide_eq_true c7] at hm
 refine aE (aI.of (aM:=false) (hm) (.refl rfl) rfl (by simp)) ?_
 refine Yd ?_
 by_cases c8:0<=p.cores/\p.cores<=2^30
 case neg =>
  rw [decide_eq_false c8] at hc
  refine aE (aI.of (aM:=false) (hc) (.refl rfl) rfl (by simp)) ?_
  refine Yd ?_
  exact fin
 rw [decide_eq_true c8] at hc
 refine aE (aI.of (aM:=false) (hc) (.refl rfl) rfl (by simp)) ?_
 refine Yd ?_
 have ok:∀ a b:Int,aAe p (.tup [.int .i64 a,.int .i64 b]):=fun a b=>⟨a,b,rfl,fun _=>⟨c7,c8⟩⟩
 unfold aDK
 refine Ya ?_
 refine aF (σ:=Int×Int) (fun z=>⟨[(0,.sl false 6 (l.map eD)),(3,.int .i64 long),(5,.ref 0 0 0),(6,.ref 1 0 0),(10,.int .i64 z.2),(11,.int .i64 z.1)],[.box [.int .i64 t1,.int .i64 t2],.box (eD p).cells]⟩) (fun z=> -1<=z.1/\z.1<=l.length) (fun z=>(l.length-z.1).toNat) (-1,-1) ?_ ⟨by simp,by simp only;omega⟩ ?_
 · exact Sub.ofS [some 0,some 1]
 rintro ⟨z,best⟩ ⟨hz,hz2⟩
 simp only at hz hz2
 unfold aDJ
 by_cases h0:z= -1
 · subst h0
   simp -implicitDefEqProofs(disch:=first|decide|omega)only[↓aA,aC,aB,simprocAttr,bB,bG]
   repeat' first
    | exact ok _ _
    | with_reducible apply And.intro
    | omega
    | (refine aH (aLk l hl _ _ p _ _) rfl (by rintro _ ⟨_,rfl⟩;rfl) ?_;rintro _ ⟨bb,rfl⟩;simp -implicitDefEqProofs(disch:=first|decide|omega)only[↓aA,aC,aB,simprocAttr,bB,bG])
    | (refine a7 (aLk l hl _ _ p _ _) rfl (by rintro _ ⟨_,rfl⟩;rfl) ?_;rintro _ ⟨bb,rfl⟩;simp -implicitDefEqProofs(disch:=first|decide|omega)only[↓aA,aC,aB,simprocAttr,bB,bG])
    | (refine ⟨(0,best),?_,⟨by simp only;omega,by simp only;omega⟩,by simp only;omega⟩;(refine Sub.of0 [some 0,some 1] rfl ?_ rfl ?_<;>repeat' first|trivial|rfl|exact .inl rfl|exact .inr ⟨rfl,_,_,rfl⟩|(simp;done)|(simp;omega)|refine And.intro ?_ ?_);done)
    | (refine ⟨(0,p.frm),?_,⟨by simp only;omega,by simp only;omega⟩,by simp only;omega⟩;(refine Sub.of0 [some 0,some 1] rfl ?_ rfl ?_<;>repeat' first|trivial|rfl|exact .inl rfl|exact .inr ⟨rfl,_,_,rfl⟩|(simp;done)|(simp;omega)|refine And.intro ?_ ?_);done)
    | (refine bC (fun hb=>?_) (fun hb=>?_)<;>simp -implicitDefEqProofs(disch:=first|decide|omega)only[↓aA,aC,aB,simprocAttr,hb,bB,bG])
    | (refine a8 (fun hb=>?_) (fun hb=>?_)<;>simp -implicitDefEqProofs(disch:=first|decide|omega)only[↓aA,aC,aB,simprocAttr,hb,bB,bG])
 · obtain ⟨j,rfl⟩:∃ j:Nat,z=(j:Int):=⟨z.toNat,by omega⟩
   by_cases hn:j<l.length
   · simp -implicitDefEqProofs(disch:=first|decide|omega)only[↓aA,aC,aB,simprocAttr,bB,bG]
     repeat' first
      | exact ok _ _
      | with_reducible apply And.intro
      | omega
      | (refine aH (aLk l hl _ _ p _ _) rfl (by rintro _ ⟨_,rfl⟩;rfl) ?_;rintro _ ⟨bb,rfl⟩;simp -implicitDefEqProofs(disch:=first|decide|omega)only[↓aA,aC,aB,simprocAttr,bB,bG])
      | (refine a7 (aLk l hl _ _ p _ _) rfl (by rintro _ ⟨_,rfl⟩;rfl) ?_;rintro _ ⟨bb,rfl⟩;simp -implicitDefEqProofs(disch:=first|decide|omega)only[↓aA,aC,aB,simprocAttr,bB,bG])
      | (refine ⟨((j:Int)+1,best),?_,⟨by simp only;omega,by simp only;omega⟩,by simp only;omega⟩;(refine Sub.of0 [some 0,some 1] rfl ?_ rfl ?_<;>repeat' first|trivial|rfl|exact .inl rfl|exact .inr ⟨rfl,_,_,rfl⟩|(simp;done)|(simp;omega)|refine And.intro ?_ ?_);done)
      | (refine ⟨((j:Int)+1,(l.getD j default).til),?_,⟨by simp only;omega,by simp only;omega⟩,by simp only;omega⟩;(refine Sub.of0 [some 0,some 1] rfl ?_ rfl ?_<;>repeat' first|trivial|rfl|exact .inl rfl|exact .inr ⟨rfl,_,_,rfl⟩|(simp;done)|(simp;omega)|refine And.intro ?_ ?_);done)
      | (refine bC (fun hb=>?_) (fun hb=>?_)<;>simp -implicitDefEqProofs(disch:=first|decide|omega)only[↓aA,aC,aB,simprocAttr,hb,bB,bG])
      | (refine a8 (fun hb=>?_) (fun hb=>?_)<;>simp -implicitDefEqProofs(disch:=first|decide|omega)only[↓aA,aC,aB,simprocAttr,hb,bB,bG])
   · simp -implicitDefEqProofs(disch:=first|decide|omega)only[↓aA,aC,aB,simprocAttr,bB,bG]
     repeat' first
      | exact ok _ _
      | with_reducible apply And.intro
      | omega
      | (refine bC (fun hb=>?_) (fun hb=>?_)<;>simp -implicitDefEqProofs(disch:=first|decide|omega)only[↓aA,aC,aB,simprocAttr,hb,bB,bG])
      | (refine a8 (fun hb=>?_) (fun hb=>?_)<;>simp -implicitDefEqProofs(disch:=first|decide|omega)only[↓aA,aC,aB,simprocAttr,hb,bB,bG])
def aTp (B:Nat) (y:AV):Prop:=∃ s':Sta,∃ n e:Int,y= .tup [.agg (stC s'),.int .i64 n,.int .i64 e]/\II B s'
theorem aKo {B:Nat} {y:AV} (h:aTp B y):y.low=true:=by
 obtain ⟨s',n,e,rfl,_⟩:=h
 rfl
def aOe (B:Nat) (y:AV):Prop:=∃ s':Sta,∃ e:Int,y= .tup [.agg (stC s'),.int .i64 e]/\II B s'
theorem aFT {B:Nat} {y:AV} (h:aOe B y):y.low=true:=by
 obtain ⟨s',e,rfl,_⟩:=h
 rfl
theorem aHh {B:Nat} (s:Sta) (h:II B s) (id:Int):aW Tryz.prog 106 [.agg (stC s),.int .i64 id] [] fun y _=>aOe B y:=by
 have hpl:=h.pL
 refine aO aR7 (by simp) ?_
 unfold aP2
 refine Yb ?_
 unfold aEp
 refine Ya ?_
 refine aF (σ:=Nat) (fun k=>⟨[(1,.int .i64 id),(2,.ref 0 0 0),(4,.ref 1 0 0),(6,.own 2 6 0 ((s.plans.take k).filter fun c=>c.id !=id).length),(7,.int .i64 (k:Int))],[.box (stC s),.box [.aD,.aD,.aD,.aD,.aD,.aD,.aD,.int .i64 0,.int .i64 0,.int .i64 0],.arr 6 (((s.plans.take k).filter fun c=>c.id !=id).map eD)]⟩) (fun k=>k<=s.plans.length) (fun k=>s.plans.length-k) 0 ?_ (by omega) ?_
 · exact Sub.ofS [some 0,some 1,none]
 rintro k hk
 unfold aEo
 have hfl:=dA (p:=fun c:dR=>c.id !=id) (l:=s.plans) (k:=k)
 by_cases hki:k<s.plans.length
 · have hg:s.plans.getD k default=s.plans[k]:=by simp [hki]
   have e:=cH (p:=fun c:dR=>c.id !=id) hki
   generalize hout:(s.plans.take k).filter (fun c:dR=>c.id !=id)=out at e hfl ⊢
   by_cases hp:s.plans[k].id=id
   · rw [if_neg (by simp [hp]),List.append_nil] at e
     simp -implicitDefEqProofs(disch:=first|decide|omega)only[↓aA,aC,aB,simprocAttr,bB,bG,hg,hp]
     repeat refine And.intro (by omega) ?_
     refine ⟨k+1,?_,by omega,by omega⟩
     simp only [e]
     exact .inl rfl
   · rw [if_pos (by simp [hp])] at e
     simp -implicitDefEqProofs(disch:=first|decide|omega)only[↓aA,aC,aB,simprocAttr,bB,bG,hg,hp]
     repeat refine And.intro (by omega) ?_
     refine ⟨k+1,?_,by omega,by omega⟩
     simp only [e,List.map_append,List.map_cons,List.map_nil,List.length_append,List.length_cons,List.length_nil]
     exact Sub.ofS [some 0,some 1,some 4]
 · have:k=s.plans.length:=by omega
   subst this
   rw [List.take_length] at hfl ⊢
   generalize hout:s.plans.filter (fun c:dR=>c.id !=id)=out at hfl ⊢
   by_cases he:out.length=s.plans.length
   · refine Yd ?_
     exact ⟨s,2,rfl,h⟩
   · refine Yd ?_
     refine ⟨{ s with plans:=out },0,rfl,pX h (hout ▸ fD h.pS) (by omega) fun p hp=>h.pR p ?_⟩
     rw [<- hout] at hp
     exact (List.mem_filter.1 hp).1
set_option maxHeartbeats 2000000 in
theorem aLy {B:Nat} (s:Sta) (h:II B s) (hB:B<=2^39) (p:dR) (long:Int):aW Tryz.prog 105 [.agg (stC s),eD p,.int .i64 long] [] fun y _=>aTp B y:=by
 have hpl:=h.pL
 have K:=okS h hB
 have hL:=K.st.c.l3
 have fin:∀ e:Int,aTp B (.tup [.agg (stC s),.int .i64 0,.int .i64 e]):=fun e=>⟨s,0,e,rfl,h⟩
 refine aO aR8 (by simp) ?_
 unfold aP3
 by_cases c1:p.id<0
 · simp -implicitDefEqProofs(disch:=first|decide|omega)only[↓aA,aC,aB,simprocAttr,bB,bG,c1]
   exact fin _
 by_cases c2:p.id>999
 · simp -implicitDefEqProofs(disch:=first|decide|omega)only[↓aA,aC,aB,simprocAttr,bB,bG,c1,c2]
   exact fin _
 by_cases c3:p.label<0
 · simp -implicitDefEqProofs(disch:=first|decide|omega)only[↓aA,aC,aB,simprocAttr,bB,bG,c1,c2,c3]
   exact fin _
 by_cases c4:p.label>=s.labels.length
 · simp -implicitDefEqProofs(disch:=first|decide|omega)only[↓aA,aC,aB,simprocAttr,bB,bG,c1,c2,c3,c4]
   exact fin _
 simp -implicitDefEqProofs(disch:=first|decide|omega)only[↓aA,aC,aB,simprocAttr,bB,bG,c1,c2,c3,c4,aKV,Bool.false_eq_true,if_false]
 generalize ((p.mem,p.cores)==((0:Int),(0:Int)))=z
 cases z
 case true =>
  refine Yd ?_
  exact fin _
 refine Yd ?_
 unfold aEr
 refine Ya ?_
 refine aF (σ:=Nat×Nat) (fun q=>⟨[(2,.int .i64 long),(3,.ref 0 0 0),(4,.ref 1 0 0),(6,.ref 2 0 0),(9,.int .i64 (q.2:Int)),(10,.int .i64 (q.1:Int))],[.box (stC s),.box (fA p),.box [.aD,.aD,.aD,.aD,.aD,.aD,.aD,.int .i64 0,.int .i64 0,.int .i64 0]]⟩) (fun q=>q.1<=s.plans.length/\q.2<=q.1/\(∀ j,j<q.2->(hj:j<s.plans.length)->s.plans[j].id<p.id)/\(∀ j,q.2<=j->j<q.1->(hj:j<s.plans.length)->p.id<s.plans[j].id)/\∀ j,j<q.1->(hj:j<s.plans.length)->s.plans[j].id≠p.id) (fun q=>s.plans.length-q.1) (0,0) (.inl rfl) ⟨by simp,by simp,fun j hj=>by simp at hj,fun j h1 h2=>by simp at h2,fun j hj=>by simp at hj⟩ ?_
 rintro ⟨i,k⟩ ⟨hi,hk,ha,hb,hne⟩
 simp only at hi hk ha hb hne
 unfold aEq
 by_cases hil:i<s.plans.length
 · have hg:s.plans.getD i default=s.plans[i]:=by simp [hil]
   by_cases he:s.plans[i].id=p.id
   · simp -implicitDefEqProofs(disch:=first|decide|omega)only[↓aA,aC,aB,simprocAttr,bB,bG,hg,he]
     repeat' (with_reducible apply And.intro)
     all_goals first|omega|exact fin _
   by_cases hlt:s.plans[i].id<p.id
   · simp -implicitDefEqProofs(disch:=first|decide|omega)only[↓aA,aC,aB,simprocAttr,bB,bG,hg,he,hlt]
     repeat' (with_reducible apply And.intro)
     all_goals try omega
     all_goals
      refine ⟨(i+1,i+1),.inl rfl,⟨by simp only;omega,by simp only;omega,fun j hj hj2=>?_,fun j h1 h2=>absurd h1 (by simp only at h2 ⊢;omega),fun j hj hj2=>?_⟩,by simp only;omega⟩
      · simp only at hj
        rcases Nat.lt_or_ge j i with h5|h5
        · have:=List.pairwise_iff_getElem.1 h.pS j i hj2 hil h5
          omega
        · have:j=i:=by omega
          subst this
          exact hlt
      · simp only at hj
        by_cases hji:j=i
        · subst hji;exact he
        · exact hne j (by omega) hj2
   · simp -implicitDefEqProofs(disch:=first|decide|omega)only[↓aA,aC,aB,simprocAttr,bB,bG,hg,he,hlt]
     repeat' (with_reducible apply And.intro)
     all_goals try omega
     all_goals
      refine ⟨(i+1,k),.inl rfl,⟨by simp only;omega,by simp only;omega,ha,fun j h1 h2 hj2=>?_,fun j hj hj2=>?_⟩,by simp only;omega⟩
      · simp only at h1 h2
        by_cases hji:j=i
        · subst hji;omega
        · exact hb j h1 (by omega) hj2
      · simp only at hj
        by_cases hji:j=i
        · subst hji;exact he
        · exact hne j (by omega) hj2
 · have:i=s.plans.length:=by omega
   subst this
   by_cases hmany:12<=s.plans.length
   · simp -implicitDefEqProofs(disch:=first|decide|omega)only[↓aA,aC,aB,simprocAttr,bB,bG,hmany]
     exact fin _
   by_cases hst:p.frm<s.now
   · simp -implicitDefEqProofs(disch:=first|decide|omega)only[↓aA,aC,aB,simprocAttr,bB,bG,hmany,hst]
     exact fin _
   simp -implicitDefEqProofs(disch:=first|decide|omega)only[↓aA,aC,aB,simprocAttr,bB,bG,hmany,hst]
   refine a7 (aE8 K.st p.label) rfl (by rintro _ ⟨_,_,rfl⟩;rfl) ?_
   rintro _ ⟨t1,t2,rfl⟩
   refine Yd ?_
   refine a7 (aHf s.plans hpl t1 t2 p long) rfl (by rintro _ ⟨_,_,rfl,_⟩;rfl) ?_
   rintro _ ⟨at_,e,rfl,hpo⟩
   by_cases he0:e=0
   case neg =>
    simp -implicitDefEqProofs(disch:=first|decide|omega)only[↓aA,aC,aB,simprocAttr,bB,bG,he0]
    exact fin _
   have hpo:=hpo he0
   simp -implicitDefEqProofs(disch:=first|decide|omega)only[↓aA,aC,aB,simprocAttr,bB,bG,he0]
   have hkl:k<=s.plans.length:=hk
   generalize hp2:(⟨p.id,p.label,at_,IntKind.i64.wrap (at_+long),p.mem,p.cores⟩:dR)=p2
   have hid:p2.id=p.id:=by rw [<- hp2]
   have hpm:wZ p2:=by rw [<- hp2];exact ⟨hpo.mem,hpo.cores⟩
   have ei:=j5 (key:=dR.id) (n:=p2) hkl (fun j hj=>by rw [hid];exact ha j hj (by omega)) (fun h5=>by rw [hid];have:=hb k (Nat.le_refl _) h5 h5;omega)
   have eP:AV.agg [AV.int IntKind.i64 p.id,AV.int IntKind.i64 p.label,AV.int IntKind.i64 at_,AV.int IntKind.i64 (IntKind.i64.wrap (at_+long)),AV.int IntKind.i64 p.mem,AV.int IntKind.i64 p.cores]=eD p2:=by rw [<- hp2];rfl
   rw [eP]
   have eL:List.take (min k s.plans.length-0+1+(s.plans.length-k)) (List.take (min k s.plans.length-0+1) (List.map eD (List.take (min k s.plans.length-0) (List.take k s.plans))++[eD p2])++List.map eD (List.drop k s.plans))=(gH dR.id p2 s.plans).map eD:=by
    rw [ei]
    simp [List.take_of_length_le,Nat.min_eq_left hkl]
    exact List.take_of_length_le (by simp;omega)
   rw [eL]
   repeat' (with_reducible apply And.intro)
   all_goals try omega
   have hnew:∀ x∈s.plans,dR.id x≠dR.id p2:=fun x hx e=>by
    obtain ⟨j,hj,rfl⟩:=List.getElem_of_mem hx
    exact hne j hj hj (by rw [e,hid])
   refine ⟨{ s with plans:=gH dR.id p2 s.plans },at_,0,rfl,pX h (by rw [rR hnew];exact iI h.pS) (by rw [ei];simp;omega) fun x hx=>?_⟩
   rw [rR hnew] at hx
   rcases mF hx with rfl|hx
   · exact hpm
   · exact h.pR x hx
def a1j:{c:CC // aJ Tryz.prog 148=c}:=⟨_,by conv=>lhs;reduce⟩
def aT5:{c:CC // bA Tryz.prog 148 {} a1j.1 []=c}:=⟨_,by conv=>lhs;reduce⟩
def aD3:CC:=(fun (c:CC) (_:(aT5.1.aV [1,1,0,1,0,0])=c)=>c) _ (by conv=>lhs;reduce)
def aD4:CC:=(fun (c:CC->CC) (_:(fun a0=>(aT5.1.aV [1,1,0,1]).aU [0,0] a0)=c)=>c) _ (by conv=>lhs;reduce) aD3
def aPF:CC:=(fun (c:CC->CC) (_:(fun a0=>(aT5.1).aU [1,1,0,1] a0)=c)=>c) _ (by conv=>lhs;reduce) aD4
theorem aWs:aZ Tryz.prog 148 aPF [4] 32:=aZ.of Tryz.f148 Tryz.func148 rfl
def a1h:{c:CC // aJ Tryz.prog 150=c}:=⟨_,by conv=>lhs;reduce⟩
def aT3:{c:CC // bA Tryz.prog 150 {} a1h.1 [([1,1,0,1,0,0,1,0,0,0],(.f [1,2,3,1004,0,9,2005,6,7,8,10,11]))]=c}:=⟨_,by conv=>lhs;reduce⟩
def aDZ:CC:=(fun (c:CC) (_:(aT3.1.aV [1,1,0,1,0,0])=c)=>c) _ (by conv=>lhs;reduce)
def aD0:CC:=(fun (c:CC->CC) (_:(fun a0=>(aT3.1.aV [1,1,0,1]).aU [0,0] a0)=c)=>c) _ (by conv=>lhs;reduce) aDZ
def aPD:CC:=(fun (c:CC->CC) (_:(fun a0=>(aT3.1).aU [1,1,0,1] a0)=c)=>c) _ (by conv=>lhs;reduce) aD0
theorem aWr:aZ Tryz.prog 150 aPD [4] 30:=aZ.of Tryz.f150 Tryz.func150 rfl
def a1g:{c:CC // aJ Tryz.prog 151=c}:=⟨_,by conv=>lhs;reduce⟩
def aT2:{c:CC // bA Tryz.prog 151 {} a1g.1 []=c}:=⟨_,by conv=>lhs;reduce⟩
def aDX:CC:=(fun (c:CC) (_:(aT2.1.aV [1,1,0,1,0,0])=c)=>c) _ (by conv=>lhs;reduce)
def aDY:CC:=(fun (c:CC->CC) (_:(fun a0=>(aT2.1.aV [1,1,0,1]).aU [0,0] a0)=c)=>c) _ (by conv=>lhs;reduce) aDX
def aPC:CC:=(fun (c:CC->CC) (_:(fun a0=>(aT2.1).aU [1,1,0,1] a0)=c)=>c) _ (by conv=>lhs;reduce) aDY
theorem aWq:aZ Tryz.prog 151 aPC [4] 41:=aZ.of Tryz.f151 Tryz.func151 rfl
def a1c:{c:CC // aJ Tryz.prog 155=c}:=⟨_,by conv=>lhs;reduce⟩
def aTZ:{c:CC // bA Tryz.prog 155 {} a1c.1 []=c}:=⟨_,by conv=>lhs;reduce⟩
def aDR:CC:=(fun (c:CC) (_:(aTZ.1.aV [1,0,1,0,0])=c)=>c) _ (by conv=>lhs;reduce)
def aDS:CC:=(fun (c:CC->CC) (_:(fun a0=>(aTZ.1.aV [1,0,1]).aU [0,0] a0)=c)=>c) _ (by conv=>lhs;reduce) aDR
def aPy:CC:=(fun (c:CC->CC) (_:(fun a0=>(aTZ.1).aU [1,0,1] a0)=c)=>c) _ (by conv=>lhs;reduce) aDS
theorem aWo:aZ Tryz.prog 155 aPy [4] 35:=aZ.of Tryz.f155 Tryz.func155 rfl
theorem aAn (s:Sta) (hl:s.conts.length<2^37) (node:Int):aT Tryz.prog 148 [.agg (stC s),.int .i64 node] (.sl false 1 ((onL s node).map I64)):=by
 refine aT.wk3 (aK aWs (by simp) ?_)
 unfold aPF onL
 refine Yb ?_
 unfold aD4
 refine Ya ?_
 refine aF (σ:=Nat) (fun k=>⟨[(1,.int .i64 node),(2,.ref 0 0 0),(5,.own 1 1 0 ((s.conts.take k).filter fun c=>c.node==node).length),(6,.int .i64 (k:Int))],[.box (stC s),.arr 1 ((((s.conts.take k).filter fun c=>c.node==node).map bD.id).map I64)]⟩) (fun k=>k<=s.conts.length) (fun k=>s.conts.length-k) 0 ?_ (by omega) ?_
 · exact Sub.ofS [some 0,none]
 rintro k hk
 unfold aD3
 have hfl:=dA (p:=fun c:bD=>c.node==node) (l:=s.conts) (k:=k)
 by_cases hki:k<s.conts.length
 · have hg:s.conts.getD k default=s.conts[k]:=by simp [hki]
   have e:=cH (p:=fun c:bD=>c.node==node) hki
   generalize hout:(s.conts.take k).filter (fun c:bD=>c.node==node)=out at e hfl ⊢
   by_cases hp:s.conts[k].node=node
   · rw [if_pos (by simp [hp])] at e
     simp -implicitDefEqProofs(disch:=first|decide|omega)only[↓aA,aC,aB,simprocAttr,bB,aY,hg,hp]
     repeat refine And.intro (by omega) ?_
     refine ⟨k+1,?_,by omega,by omega⟩
     simp only [e,List.map_append,List.map_cons,List.map_nil,List.length_append,List.length_cons,List.length_nil]
     exact Sub.ofS [some 0,some 3]
   · rw [if_neg (by simp [hp]),List.append_nil] at e
     simp -implicitDefEqProofs(disch:=first|decide|omega)only[↓aA,aC,aB,simprocAttr,bB,aY,hg,hp]
     repeat refine And.intro (by omega) ?_
     refine ⟨k+1,?_,by omega,by omega⟩
     simp only [e]
     exact .inl rfl
 · have:k=s.conts.length:=by omega
   subst this
   refine Yj ?_
   exact .inl (.inl (.inl rfl))
theorem qR (s:Sta) (hl:s.conts.length<2^37) (app:Int):aW Tryz.prog 151 [.agg (stC s),.int .i64 app] [] fun y _=>∃ l:List Int,y= .sl false 1 (l.map I64):=by
 refine aK aWq (by simp) ?_
 unfold aPC
 refine Yb ?_
 unfold aDY
 refine Ya ?_
 refine aF (σ:=Nat×List Int) (fun p=>⟨[(1,.int .i64 app),(2,.ref 0 0 0),(5,.own 1 1 0 p.2.length),(6,.int .i64 (p.1:Int))],[.box (stC s),.arr 1 (p.2.map I64)]⟩) (fun p=>p.1<=s.conts.length/\p.2.length<=p.1) (fun p=>s.conts.length-p.1) (0,[]) ?_ ⟨by simp,by simp⟩ ?_
 · exact Sub.ofS [some 0,none]
 rintro ⟨k,l⟩ ⟨hk,hll⟩
 simp only at hk hll
 unfold aDX
 by_cases hki:k<s.conts.length
 · have hg:s.conts.getD k default=s.conts[k]:=by simp [hki]
   by_cases hp:s.conts[k].app=app
   · by_cases hn:s.conts[k].notice=0
     · simp -implicitDefEqProofs(disch:=first|decide|omega)only[↓aA,aC,aB,simprocAttr,bB,aY,hg,hp]
       repeat refine And.intro (by omega) ?_
       exact ⟨(k+1,l),.inl rfl,⟨by simp only;omega,by simp only;omega⟩,by simp only;omega⟩
     · simp -implicitDefEqProofs(disch:=first|decide|omega)only[↓aA,aC,aB,simprocAttr,bB,aY,hg,hp,hn]
       repeat refine And.intro (by omega) ?_
       refine ⟨(k+1,l++[s.conts[k].id]),?_,⟨by simp only;omega,by simp;omega⟩,by simp only;omega⟩
       simp only [List.map_append,List.map_cons,List.map_nil,List.length_append,List.length_cons,List.length_nil]
       exact Sub.ofS [some 0,some 3]
   · simp -implicitDefEqProofs(disch:=first|decide|omega)only[↓aA,aC,aB,simprocAttr,bB,aY,hg,hp]
     repeat refine And.intro (by omega) ?_
     exact ⟨(k+1,l),.inl rfl,⟨by simp only;omega,by simp only;omega⟩,by simp only;omega⟩
 · refine Yb ?_
   exact ⟨l,rfl⟩
theorem aH2 (s:Sta) (hl:s.conts.length<2^37) (app:Int):aW Tryz.prog 155 [.agg (stC s),.int .i64 app] [] fun y _=>∃ n:Int,y= .int .i64 n:=by
 refine aK aWo (by simp) ?_
 unfold aPy
 refine Yb ?_
 unfold aDS
 refine Ya ?_
 refine aF (σ:=Nat) (fun k=>⟨[(1,.int .i64 app),(2,.ref 0 0 0),(5,.int .i64 (k:Int))],[.box (stC s)]⟩) (fun k=>k<=s.conts.length) (fun k=>s.conts.length-k) 0 (.inl rfl) (by omega) ?_
 rintro k hk
 unfold aDR
 by_cases hki:k<s.conts.length
 · have hg:s.conts.getD k default=s.conts[k]:=by simp [hki]
   by_cases hp:s.conts[k].app=app
   · cases hm:s.conts[k].master
     · simp -implicitDefEqProofs(disch:=first|decide|omega)only[↓aA,aC,aB,simprocAttr,bB,aY,hg,hp,hm]
       repeat refine And.intro (by omega) ?_
       exact ⟨k+1,.inl rfl,by omega,by omega⟩
     · simp -implicitDefEqProofs(disch:=first|decide|omega)only[↓aA,aC,aB,simprocAttr,bB,aY,hg,hp,hm]
       repeat refine And.intro (by omega) ?_
       exact ⟨_,rfl⟩
   · simp -implicitDefEqProofs(disch:=first|decide|omega)only[↓aA,aC,aB,simprocAttr,bB,aY,hg,hp]
     repeat refine And.intro (by omega) ?_
     exact ⟨k+1,.inl rfl,by omega,by omega⟩
 · refine Yb ?_
   exact ⟨_,rfl⟩
theorem vC (t:Bool) (s:Sta) (hl:s.conts.length<2^37) (ids:List Int) (hi:ids.length<=2^40):aW Tryz.prog 150 [.agg (stC s),.sl t 1 (ids.map I64)] [] fun y _=>∃ l:List bD,y= .sl false 9 (l.map bY):=by
 refine aK aWr (by simp) ?_
 unfold aPD
 refine Yb ?_
 unfold aD0
 refine Ya ?_
 refine aF (σ:=Nat×List bD) (fun p=>⟨[(1,.sl t 1 (ids.map I64)),(2,.ref 0 0 0),(5,.own 1 9 0 p.2.length),(6,.int .i64 (p.1:Int))],[.box (stC s),.arr 9 (p.2.map bY)]⟩) (fun p=>p.1<=ids.length/\p.2.length<=p.1) (fun p=>ids.length-p.1) (0,[]) ?_ ⟨by simp,by simp⟩ ?_
 · exact Sub.ofS [some 0,none]
 rintro ⟨k,l⟩ ⟨hk,hll⟩
 simp only at hk hll
 unfold aDZ
 by_cases hki:k<ids.length
 · have hg:ids.getD k default=ids[k]:=by simp [hki]
   have c92:=kY s (by omega) ids[k]
   unfold dT at c92
   simp -implicitDefEqProofs(disch:=first|decide|omega)only[↓aA,aC,aB,simprocAttr,bB,aY,hg,I64]
   repeat refine And.intro (by omega) ?_
   refine bP (c92) rfl rfl ?_
   generalize (gR ids[k] s.conts).getD cI=c
   cases (gR ids[k] s.conts).isSome
   · refine Yc ?_
     refine ⟨(k+1,l),?_,⟨by simp only;omega,by simp only;omega⟩,by simp only;omega⟩
     exact Sub.ofS [some 0,some 1]
   · simp -implicitDefEqProofs(disch:=first|decide|omega)only[↓aA,aC,aB,simprocAttr,bB,aY]
     repeat refine And.intro (by omega) ?_
     refine ⟨(k+1,l++[c]),?_,⟨by simp only;omega,by simp;omega⟩,by simp only;omega⟩
     simp only [List.map_append,List.map_cons,List.map_nil,List.length_append,List.length_cons,List.length_nil]
     exact Sub.ofS [some 0,some 4]
 · refine Yb ?_
   exact ⟨l,rfl⟩
def a1M:{c:CC // aJ Tryz.prog 101=c}:=⟨_,by conv=>lhs;reduce⟩
def aN0:{c:CC // bA Tryz.prog 101 {} a1M.1 [([1,1,0,1,0,0],(.f [2,0,1,3,2004,5,6,7])),([1,1,1,1,1,1,0,1,0,0,1,0,0,0],(.f [1,3,0,2,4,1005,10,2006,7,8,9,11,12])),([1,1,1,1,1,1,1,1,1,0],(.f [2,0,1,3,2004,5,6,7]))]=c}:=⟨_,by conv=>lhs;reduce⟩
def aEA:CC:=(fun (c:CC) (_:(aN0.1.aV [1,1,1,1,1,1,0,1,0,0])=c)=>c) _ (by conv=>lhs;reduce)
def aEB:CC:=(fun (c:CC->CC) (_:(fun a0=>(aN0.1.aV [1,1,1,1,1,1,0,1]).aU [0,0] a0)=c)=>c) _ (by conv=>lhs;reduce) aEA
def pC:CC:=(fun (c:CC->CC) (_:(fun a0=>(aN0.1.aV [1,1,1]).aU [1,1,1,0,1] a0)=c)=>c) _ (by conv=>lhs;reduce) aEB
def aP7:CC:=(fun (c:CC->CC) (_:(fun a0=>(aN0.1).aU [1,1,1] a0)=c)=>c) _ (by conv=>lhs;reduce) pC
theorem aSc:aX Tryz.prog 101 aP7 [.ce 4 41 10 true,.ce 5 94 5 true] 101:=aX.of Tryz.f101 Tryz.func101 rfl ⟨by kernel_rfl,by kernel_rfl,trivial⟩
def a1K:{c:CC // aJ Tryz.prog 103=c}:=⟨_,by conv=>lhs;reduce⟩
def aZ0:{c:CC // bA Tryz.prog 103 {} a1K.1 []=c}:=⟨_,by conv=>lhs;reduce⟩
def aP5:CC:=(fun (c:CC) (_:(aZ0.1)=c)=>c) _ (by conv=>lhs;reduce)
theorem aSa:aX Tryz.prog 103 aP5 [.ce 6 41 10 true,.ce 7 94 5 true] 41:=aX.of Tryz.f103 Tryz.func103 rfl ⟨by kernel_rfl,by kernel_rfl,trivial⟩
def a1J:{c:CC // aJ Tryz.prog 104=c}:=⟨_,by conv=>lhs;reduce⟩
def aBk:{c:CC // bA Tryz.prog 104 {} a1J.1 [([1,1,1,1,1,1,0,1,0,0,1,0,0,0],(.f [1,2,3,6,7,8,1004,1009,0,5,10,11])),([1,1,1,1,1,1,0,1,0,0,1,0,0,1],(.f [2,3,4,1005,0,1,2006,7,8])),([1,1,1,1,1,1,1,1,0,1,0,0,1,0,0],(.f [2,3,4,1005,0,1,2006,7,8,9])),([1,1,1,1,1,1,1,1,1,1,1,1,1,0],(.f [0,1,2,2003,4,5,6]))]=c}:=⟨_,by conv=>lhs;reduce⟩
def aEu:CC:=(fun (c:CC) (_:(aBk.1.aV [1,1,1,1,1,1,1,1,1,1,0,1,0,0])=c)=>c) _ (by conv=>lhs;reduce)
def aEx:CC:=(fun (c:CC->CC) (_:(fun a0=>(aBk.1.aV [1,1,1,1,1,1,1,1,1,1,0,1]).aU [0,0] a0)=c)=>c) _ (by conv=>lhs;reduce) aEu
def aEt:CC:=(fun (c:CC) (_:(aBk.1.aV [1,1,1,1,1,1,1,1,0,1,0,0])=c)=>c) _ (by conv=>lhs;reduce)
def aEw:CC:=(fun (c:CC->CC) (_:(fun a0=>(aBk.1.aV [1,1,1,1,1,1,1,1,0,1]).aU [0,0] a0)=c)=>c) _ (by conv=>lhs;reduce) aEt
def aEs:CC:=(fun (c:CC) (_:(aBk.1.aV [1,1,1,1,1,1,0,1,0,0])=c)=>c) _ (by conv=>lhs;reduce)
def aEv:CC:=(fun (c:CC->CC) (_:(fun a0=>(aBk.1.aV [1,1,1,1,1,1,0,1]).aU [0,0] a0)=c)=>c) _ (by conv=>lhs;reduce) aEs
def aP4:CC:=(fun (c:CC->CC->CC->CC) (_:(fun a0 a1 a2=>(((aBk.1).aU [1,1,1,1,1,1,0,1] a0).aU [1,1,1,1,1,1,1,1,0,1] a1).aU [1,1,1,1,1,1,1,1,1,1,0,1] a2)=c)=>c) _ (by conv=>lhs;reduce) aEv aEw aEx
theorem aR9:aX Tryz.prog 104 aP4 [.ce 4 41 10 true,.ce 5 94 5 true] 117:=aX.of Tryz.f104 Tryz.func104 rfl ⟨by kernel_rfl,by kernel_rfl,trivial⟩
def a1H:{c:CC // aJ Tryz.prog 107=c}:=⟨_,by conv=>lhs;reduce⟩
def aZZ:{c:CC // bA Tryz.prog 107 {} a1H.1 []=c}:=⟨_,by conv=>lhs;reduce⟩
def aP1:CC:=(fun (c:CC) (_:(aZZ.1)=c)=>c) _ (by conv=>lhs;reduce)
theorem aR6:aX Tryz.prog 107 aP1 [.ce 4 41 10 true,.ce 5 94 5 true] 9:=aX.of Tryz.f107 Tryz.func107 rfl ⟨by kernel_rfl,by kernel_rfl,trivial⟩
structure Inp where
 kind:Int
 id:Int
 beat:Int
 n:Int
 text:List UInt8
 node:Node
 app:App
 asks:List Ask
 ids:List Int
 plan:dR
def bZ (x:Inp):List AV:=[.int .i64 x.kind,.int .i64 x.id,.int .i64 x.beat,.int .i64 x.n,.str x.text,
 .int .i64 x.node.id,.int .i64 x.node.label,.int .i64 x.node.rack,.int .i64 x.node.mem,.int .i64 x.node.cores,.int .i64 x.node.seen,.int .i64 x.node.beat,.bool x.node.up,
 .int .i64 x.app.id,.int .i64 x.app.state,.str x.app.queue,.int .i64 x.app.user,.int .i64 x.app.prio,.int .i64 x.app.mem,.int .i64 x.app.cores,.sl false 8 (x.app.asks.map ASK),.int .i64 x.app.seen,.int .i64 x.app.beat,.sl false 1 (x.app.grants.map I64),.sl false 1 (x.app.kills.map I64),.sl false 1 (x.app.told.map I64),.sl false 1 (x.app.lost.map I64),
 .sl false 8 (x.asks.map ASK),.sl false 1 (x.ids.map I64),
 .int .i64 x.plan.id,.int .i64 x.plan.label,.int .i64 x.plan.frm,.int .i64 x.plan.til,.int .i64 x.plan.mem,.int .i64 x.plan.cores]
structure aBl (x:Inp):Prop where
 text:x.text.length<=4000
 app:AT x.app
 asks:x.asks.length<=8
 ids:x.ids.length<=201
 aid:x.app.id<=8999
def l6 (e:Int) (c:List bD) (i g:List Int) (n:Int):List AV:=[.int .i64 e,.sl false 9 (c.map bY),.sl false 1 (i.map I64),.sl false 1 (g.map I64),.int .i64 n]
def eZ (B:Nat) (y:AV):Prop:=∃ s':Sta,∃ e:Int,∃ c:List bD,∃ i g:List Int,∃ n:Int,y= .tup [.agg (stC s'),.agg (l6 e c i g n)]/\II B s'
theorem fL {B:Nat} {y:AV} (h:eZ B y):y.low=true:=by
 obtain ⟨s',e,c,i,g,n,rfl,_⟩:=h
 rfl
theorem eZ.mono {B B':Nat} {y:AV} (h:eZ B y) (hb:B<=B'):eZ B' y:=by
 obtain ⟨s',e,c,i,g,n,rfl,h⟩:=h
 exact ⟨s',e,c,i,g,n,rfl,h.mono hb⟩
theorem Wk4.of3 {r y:AV} (h:Wk3 r y):Wk4 r y:=fun _ _ _ hv=>h.vr hv
theorem cO {B:Nat} {s':Sta} (h:II B s') (e n:Int) {c i g:AV} (hc:c= .aD∨∃ l:List bD,c= .sl false 9 (l.map bY)) (hi:i= .aD∨∃ l:List Int,i= .sl false 1 (l.map I64)) (hg:g= .aD∨∃ l:List Int,g= .sl false 1 (l.map I64)) :
 ∃ y,Wk4 (.tup [.agg (stC s'),.agg [.int .i64 e,c,i,g,.int .i64 n]]) y/\eZ B y:=by
 obtain ⟨lc,hc⟩:∃ l:List bD,Wk1 c (.sl false 9 (l.map bY)):=by
  rcases hc with rfl|⟨l,rfl⟩
  · exact ⟨[],.inr ⟨rfl,_,_,rfl⟩⟩
  · exact ⟨l,.inl rfl⟩
 obtain ⟨li,hi⟩:∃ l:List Int,Wk1 i (.sl false 1 (l.map I64)):=by
  rcases hi with rfl|⟨l,rfl⟩
  · exact ⟨[],.inr ⟨rfl,_,_,rfl⟩⟩
  · exact ⟨l,.inl rfl⟩
 obtain ⟨lg,hg⟩:∃ l:List Int,Wk1 g (.sl false 1 (l.map I64)):=by
  rcases hg with rfl|⟨l,rfl⟩
  · exact ⟨[],.inr ⟨rfl,_,_,rfl⟩⟩
  · exact ⟨l,.inl rfl⟩
 exact ⟨.tup [.agg (stC s'),.agg (l6 e lc li lg n)],.of3 (.inr ⟨_,_,rfl,rfl,.inl (.inl rfl),.inr ⟨_,_,rfl,rfl,.inl rfl,hc,hi,hg,.inl rfl,trivial⟩,trivial⟩),s',e,lc,li,lg,n,rfl,h⟩
theorem dJ (s:Sta) (e:Int):aT Tryz.prog 107 [.agg (stC s),.int .i64 e] (.tup [.agg (stC s),.agg [.int .i64 e,.aD,.aD,.aD,.int .i64 0]]):=by
 unfold aT
 refine aO aR6 (by simp) ?_
 unfold aP1
 simp -implicitDefEqProofs(disch:=first|decide|omega)only[↓aA,aC,aB,simprocAttr,bB]
set_option maxHeartbeats 1000000 in
theorem aH3 {B:Nat} (s:Sta) (h:II B s) (hB:B+210<=2^39) (x:Inp) (hx:aBl x):aW Tryz.prog 101 [.agg (stC s),.agg (bZ x)] [] fun y _=>eZ (B+210) y:=by
 have K:=okS h (by omega)
 have bad:∀ e:Int,∃ y,Wk4 (.tup [.agg (stC s),.agg [.int .i64 e,.aD,.aD,.aD,.int .i64 0]]) y/\eZ (B+210) y:=fun e=>cO (h.mono (by omega)) e 0 (.inl rfl) (.inl rfl) (.inl rfl)
 refine cX (aO aSc (by simp) ?_)
 unfold aP7
 have c24:=kV s (by have:=K.st.n;omega) x.id
 unfold dT at c24
 simp -implicitDefEqProofs(disch:=first|decide|omega)only[↓aA,aC,aB,simprocAttr,bB,aN,bZ]
 refine aE (aI.of (aM:=false) (c24) (.refl rfl) rfl (by simp)) ?_
 have c31:=aHV s (by have:=K.st.n;omega) x.id x.beat
 unfold sH at c31
 cases hf:eH x.id s.nodes with
 | none =>
   have eb:pD s x.id x.beat=(s,2):=by unfold pD;rw [hf]
   rw [eb] at c31
   simp -implicitDefEqProofs(disch:=first|decide|omega)only[↓aA,aC,aB,simprocAttr,bB,aN,bZ,Option.isSome_none,Option.getD_none]
   unfold pC
   simp -implicitDefEqProofs(disch:=first|decide|omega)only[↓aA,aC,aB,simprocAttr,bB]
   refine aE (aI.of (aM:=false) (c31) (.refl rfl) rfl (by simp)) ?_
   simp -implicitDefEqProofs(disch:=first|decide|omega)only[↓aA,aC,aB,simprocAttr,bB,aN,bZ]
   refine aE (aI.of (aM:=false) (dJ s 2) (.refl rfl) rfl (by simp)) ?_
   simp -implicitDefEqProofs(disch:=first|decide|omega)only[↓aA,aC,aB,simprocAttr,bB]
   exact bad 2
 | some n =>
   have hn:=(gG hf).1
   have hid:=(gG hf).2
   have hno:=h.nR n hn
   by_cases hsame:n.up=true/\n.beat=x.beat
   · simp -implicitDefEqProofs(disch:=first|decide|omega)only[↓aA,aC,aB,simprocAttr,bB,aN,bZ,Option.isSome_some,Option.getD_some,hsame.1,hsame.2]
     refine bP (aAn s (by have:=K.st.k;omega) x.id) rfl rfl ?_
     simp -implicitDefEqProofs(disch:=first|decide|omega)only[↓aA,aC,aB,simprocAttr,bB]
     exact cO (h.mono (by omega)) 0 0 (.inl rfl) (.inr ⟨_,rfl⟩) (.inl rfl)
   have rest:∀ t e,pD s x.id x.beat=(t,e)->(e=0->II B t):=fun t e he h0=>by
    unfold pD at he
    rw [hf] at he
    simp only at he
    split at he
    · cases he;cases h0
    split at he
    · cases he;cases h0
    split at he
    · cases he;cases h0
    split at he
    · cases he;cases h0
    cases he
    have hnow:=h.now
    rename_i hu _ _ _
    exact aJ7 h (m:=n) hn rfl ⟨hno.id,hno.label,hno.rack,hno.mem,hno.cores,⟨hnow.1,Int.le_refl _⟩,trivial⟩ (by simpa using hu) rfl rfl rfl
   have stale:∀ t e,pD s x.id x.beat=(t,e)->e≠0->t=s:=fun t e he h0=>by
    unfold pD at he
    rw [hf] at he
    simp only at he
    split at he
    · cases he;rfl
    split at he
    · cases he;rfl
    split at he
    · cases he;rfl
    split at he
    · cases he;rfl
    cases he
    exact absurd rfl h0
   have go:∀ first:Bool,True:=fun _=>trivial
   generalize hbt:pD s x.id x.beat=q at c31 rest stale
   obtain ⟨t,e⟩:=q
   have rest:=rest t e rfl
   have stale:=stale t e rfl
   have part2:aw Tryz.prog pC (oN [.ce 4 41 10 true,.ce 5 94 5 true] fun y _=>∃ z,Wk4 y z/\eZ (B+210) z) ⟨[(2,.ref 0 0 0),(3,.ref 1 0 0),(4,.ref 2 0 0),(5,.ref 3 0 0),(32,.bool false)],[.box (stC s),.box (bZ x),.box [.aD,.aD,.aD,.aD,.aD,.aD,.aD,.int .i64 0,.int .i64 0,.int .i64 0],.box [.int .i64 0,.aD,.aD,.aD,.int .i64 0],.box (cB n)]⟩:=by
    unfold pC
    simp -implicitDefEqProofs(disch:=first|decide|omega)only[↓aA,aC,aB,simprocAttr,bB,bZ]
    refine aE (aI.of (aM:=false) (c31) (.refl rfl) rfl (by simp)) ?_
    by_cases he:e=0
    case neg =>
     have:=stale he
     subst this
     simp -implicitDefEqProofs(disch:=first|decide|omega)only[↓aA,aC,aB,simprocAttr,bB,he]
     refine aE (aI.of (aM:=false) (dJ t e) (.refl rfl) rfl (by simp)) ?_
     simp -implicitDefEqProofs(disch:=first|decide|omega)only[↓aA,aC,aB,simprocAttr,bB]
     exact bad e
    have ht:=rest he
    have K2:=okS ht (by omega)
    simp -implicitDefEqProofs(disch:=first|decide|omega)only[↓aA,aC,aB,simprocAttr,bB,he]
    unfold aEB
    simp -implicitDefEqProofs(disch:=first|decide|omega)only[↓aA,aC,aB,simprocAttr]
    refine aF (σ:=Nat×List Int) (fun p=>⟨[(3,.ref 0 0 0),(4,.ref 1 0 0),(5,.ref 2 0 0),(8,.ref 3 0 0),(10,.own 4 1 0 p.2.length),(11,.int .i64 (p.1:Int))],[.box (bZ x),.box [.aD,.aD,.aD,.aD,.aD,.aD,.aD,.int .i64 0,.int .i64 0,.int .i64 0],.box [.int .i64 0,.aD,.aD,.aD,.int .i64 0],.box (stC t),.arr 1 (p.2.map I64)]⟩) (fun p=>p.1<=x.ids.length/\p.2.length<=p.1) (fun p=>x.ids.length-p.1) (0,[]) ?_ ⟨by simp,by simp⟩ ?_
    · exact Sub.ofS [some 1,some 2,some 3,some 5,none]
    rintro ⟨k,l⟩ ⟨hk,hl⟩
    simp only at hk hl
    have hxi:=hx.ids
    unfold aEA
    by_cases hkl:k<x.ids.length
    · have hg:x.ids.getD k default=x.ids[k]:=by simp [hkl]
      have c92:=kY t (by have:=K2.st.k;omega) x.ids[k]
      unfold dT at c92
      simp -implicitDefEqProofs(disch:=first|decide|omega)only[↓aA,aC,aB,simprocAttr,bB,bZ,hg,I64]
      repeat refine And.intro (by omega) ?_
      refine bP (c92) rfl rfl ?_
      generalize (gR x.ids[k] t.conts).getD cI=c
      cases (gR x.ids[k] t.conts).isSome
      · simp -implicitDefEqProofs(disch:=first|decide|omega)only[↓aA,aC,aB,simprocAttr,bB,aY,bZ]
        refine ⟨(k+1,l),?_,⟨by simp only;omega,by simp only;omega⟩,by simp only;omega⟩
        exact Sub.ofS [some 0,some 1,some 2,some 3,some 4]
      · by_cases hcn:c.node=x.id
        · simp -implicitDefEqProofs(disch:=first|decide|omega)only[↓aA,aC,aB,simprocAttr,bB,aY,bZ,hcn]
          repeat refine And.intro (by omega) ?_
          refine ⟨(k+1,l++[c.id]),?_,⟨by simp only;omega,by simp;omega⟩,by simp only;omega⟩
          simp only [List.map_append,List.map_cons,List.map_nil,List.length_append,List.length_cons,List.length_nil]
          exact Sub.ofS [some 0,some 1,some 2,some 3,some 7]
        · simp -implicitDefEqProofs(disch:=first|decide|omega)only[↓aA,aC,aB,simprocAttr,bB,aY,bZ,hcn]
          refine ⟨(k+1,l),?_,⟨by simp only;omega,by simp only;omega⟩,by simp only;omega⟩
          exact Sub.ofS [some 0,some 1,some 2,some 3,some 4]
    · simp -implicitDefEqProofs(disch:=first|decide|omega)only[↓aA,aC,aB,simprocAttr,bB,bZ]
      have hlB:l.length<=201:=by omega
      have c52:=rO true t l (by omega) (rN ht l (by omega))
      refine aE (aI.of (aM:=true) c52 (.cons (Vw.refl rfl) (.cons (Vw.sU rfl) .nil)) rfl (fun _=>rfl)) ?_
      have h2:=(jN l ht).mono (B':=B+201) (by omega)
      simp -implicitDefEqProofs(disch:=first|decide|omega)only[↓aA,aC,aB,simprocAttr,bB,bZ]
      refine aH (aGk (fG t l) h2 (by omega) x.id) rfl (fun y hy=>aF5 hy) ?_
      rintro _ ⟨u,cs,rfl,hu⟩
      simp -implicitDefEqProofs(disch:=first|decide|omega)only[↓aA,aC,aB,simprocAttr,bB,bZ]
      have K3:=okS hu (by omega)
      refine bP (aAn u (by have:=K3.st.k;omega) x.id) rfl rfl ?_
      simp -implicitDefEqProofs(disch:=first|decide|omega)only[↓aA,aC,aB,simprocAttr,bB]
      exact cO (hu.mono (by omega)) 0 0 (.inl rfl) (.inr ⟨_,rfl⟩) (.inl rfl)
   cases hup:n.up
   · simp -implicitDefEqProofs(disch:=first|decide|omega)only[↓aA,aC,aB,simprocAttr,bB,aN,bZ,Option.isSome_some,Option.getD_some,hup]
     exact part2
   · have hne:¬ n.beat=x.beat:=fun e=>hsame ⟨hup,e⟩
     simp -implicitDefEqProofs(disch:=first|decide|omega)only[↓aA,aC,aB,simprocAttr,bB,aN,bZ,Option.isSome_some,Option.getD_some,hup,hne]
     exact part2
end Go.Proofs.YtakemdamegfcfaaGreat
