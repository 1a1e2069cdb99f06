/- How End computes. No condition. -/
import Derived.Test.YtakemdamegfcfaaGreatU37
import Derived.Test.YtakemdamegfcfaaGreatU44
set_option linter.unusedSimpArgs false
set_option linter.unusedVariables false
set_option maxHeartbeats 16000000
set_option maxRecDepth 20000
namespace Go.Proofs.YtakemdamegfcfaaGreat
open Go Go.Ab
theorem _root_.Go.Ab.aW.b8v {P:Program} {f:FuncId} {args:List AV} {H:List AO} {Post:AV->List AO->Prop} (id:Nat) {z:Nat} {l:List AV} (h:aW P f args H fun y G=>∃ zs,G[id]?=some (.arr z (l++zs))/\Post y (G.set id (.arr z l))):aW P f args H Post:=by
 refine ⟨h.1,fun E vs hm hl hv=>(h.2 E vs hm hl hv).mono fun e w' ⟨v,y,H',E',h1,h2,h3,h4,h5,zs,h7,h8⟩=>?_⟩
 refine ⟨v,y,H'.set id (.arr z l),E',h1,h2,?_,a23 h4 h7,?_,h8⟩
 · rw [List.length_set];exact h3
 · rw [List.length_set];exact h5
structure bDd {α:Type} (q:α->Bool) (l:List α) (j:Nat) (A:List α):Prop where
 n:A.length=l.length
 t:A.take ((l.take j).filter q).length=(l.take j).filter q
 d:A.drop j=l.drop j
theorem bDd.get {α:Type} {q:α->Bool} {l:List α} {j:Nat} {A:List α} (h:bDd q l j A) (hj:j<l.length):A[j]'(by rw [h.n];exact hj)=l[j]:=by
 have h1:(A.drop j)[0]?=(l.drop j)[0]?:=by rw [h.d]
 rw [List.getElem?_drop,List.getElem?_drop,Nat.add_zero,List.getElem?_eq_getElem (by rw [h.n];exact hj),List.getElem?_eq_getElem hj] at h1
 exact Option.some.inj h1
theorem bDd.skip {α:Type} {q:α->Bool} {l:List α} {j:Nat} {A:List α} (h:bDd q l j A) (hj:j<l.length) (hq:q l[j]=false):bDd q l (j+1) A:=by
 refine ⟨h.n,?_,?_⟩
 · rw [cH hj,hq,if_neg (by simp),List.append_nil];exact h.t
 · rw [<- List.drop_drop,h.d,List.drop_drop]
theorem bDd.stay {α:Type} {q:α->Bool} {l:List α} {j:Nat} {A:List α} (h:bDd q l j A) (hj:j<l.length) (hq:q l[j]=true):bDd q l (j+1) (A.set ((l.take j).filter q).length l[j]):=by
 have hi:((l.take j).filter q).length<=j:=Nat.le_trans (List.length_filter_le _ _) (by simp;omega)
 have hn:=h.n
 refine ⟨by rw [List.length_set];exact hn,?_,?_⟩
 · rw [cH hj,hq,if_pos rfl,List.length_append,List.length_singleton,List.take_set,List.take_succ_eq_append_getElem (by omega),h.t,List.set_append_right _ _ (Nat.le_refl _),Nat.sub_self]
   rfl
 · rw [List.drop_set_of_lt (by omega),<- List.drop_drop,h.d,List.drop_drop]
theorem bDd.first {α:Type} {q:α->Bool} {l:List α} {i:Nat} (hi:i<l.length) (hq:q l[i]=false) (hn:∀ j,(hj:j<i)->q (l[j]'(by omega))=true):bDd q l (i+1) l/\(l.take (i+1)).filter q=l.take i:=by
 have e:(l.take i).filter q=l.take i:=by
  rw [List.filter_eq_self]
  intro x hx
  obtain ⟨j,hj,rfl⟩:=List.getElem_of_mem hx
  rw [List.getElem_take]
  exact hn j (by simp at hj;omega)
 have e2:(l.take (i+1)).filter q=l.take i:=by rw [cH hi,hq,if_neg (by simp),List.append_nil,e]
 refine ⟨⟨rfl,?_,rfl⟩,e2⟩
 rw [e2,List.length_take,Nat.min_eq_left (by omega)]
theorem x9u {l:List bD} {i:Nat} {x:bD}:(l.map bY).set i (dS ((l.map bY).getD i .top) 0 9 (cE x))=(l.set i x).map bY:=by
 by_cases h:i<l.length
 · have:(l.map bY).getD i .top=bY l[i]:=by simp [List.getD_eq_getElem?_getD,h]
   rw [this,List.map_set];rfl
 · rw [List.set_eq_of_length_le (by simp;omega),List.set_eq_of_length_le (by omega)]
theorem x9v {l:List dY} {i:Nat} {x:dY}:(l.map gW).set i (dS ((l.map gW).getD i .top) 0 3 (gF x))=(l.set i x).map gW:=by
 by_cases h:i<l.length
 · have:(l.map gW).getD i .top=gW l[i]:=by simp [List.getD_eq_getElem?_getD,h]
   rw [this,List.map_set];rfl
 · rw [List.set_eq_of_length_le (by simp;omega),List.set_eq_of_length_le (by omega)]
def a8s (p:Int) (c:bD):Bool:= !bBF p c
def a7F (p:Int) (l:List bD):List Int:=(l.filter (bBF p)).map bD.id
theorem b3q (p:Int) (l:List bD) (hl:l.length<2^36) (Post:AV->List AO->Prop)
 (h0:a7F p l=[]->l.filter (a8s p)=l->Post (.own 2 9 0 l.length) [.box [.int .i64 p],.box [.aD],.arr 9 (l.map bY)])
 (h1:Post (.own 2 9 0 (l.filter (a8s p)).length) [.box [.int .i64 p],.box [.own 3 1 0 (a7F p l).length],.arr 9 ((l.filter (a8s p)).map bY),.arr 1 ((a7F p l).map I64)]) :
 aW Tryz.prog 139 [.own 2 9 0 l.length,FNS] [.box [.int .i64 p],.box [.aD],.arr 9 (l.map bY)] Post:=by
 refine aW.b8v 2 (z:=9) (l:=(l.filter (a8s p)).map bY) ?_
 refine zL b7Q (by simp) rfl ?_
 unfold b0g FNS
 refine Wa ?_
 refine (b8b p l hl (fun y G=>(uK (bBF p) l= -1/\y= .int .i64 (-1)/\G=[.box [.int .i64 p],.box [.aD],.arr 9 (l.map bY)])∨∃ i,∃ hi:i<l.length,bBF p l[i]=true/\(∀ j,(hj:j<i)->bBF p (l[j]'(by omega))=false)/\y= .int .i64 i/\G=[.box [.int .i64 p],.box [.own 3 1 0 1],.arr 9 (l.map bY),.arr 1 [I64 l[i].id]]) (fun h=>.inl ⟨h,rfl,rfl⟩) (fun i hi _ h2 h3=>.inr ⟨i,hi,h2,h3,rfl,rfl⟩)).to ?_
 rintro y G (⟨h,rfl,rfl⟩|⟨i,hi,h2,h3,rfl,rfl⟩)
 · have hall:∀ x∈l,bBF p x=false:=by
    rcases yU (bBF p) l with ⟨_,e⟩|⟨k,hk,e,_⟩
    · intro x hx
      simpa using List.find?_eq_none.1 e x hx
    · omega
   have e1:l.filter (a8s p)=l:=List.filter_eq_self.2 fun x hx=>by simp [a8s,hall x hx]
   have e2:a7F p l=[]:=by
    unfold a7F
    rw [List.filter_eq_nil_iff.2 fun x hx=>by simp [hall x hx]]
    rfl
   refine Wa ?_
   refine ⟨[],?_,?_⟩
   · rw [e1,List.append_nil]
   · rw [e1]
     exact h0 e2 e1
 obtain ⟨D,hkf⟩:=bDd.first (q:=a8s p) hi (by simp [a8s,h2]) (fun j hj=>by simp [a8s,h3 j hj])
 have hgi:a7F p (l.take (i+1))=[l[i].id]:=by
  unfold a7F
  rw [cH hi,h2,if_pos rfl,List.filter_eq_nil_iff.2 fun x hx=>by
   obtain ⟨j,hj,rfl⟩:=List.getElem_of_mem hx
   rw [List.getElem_take]
   simp [h3 j (by simp at hj;omega)]]
  rfl
 have hki:((l.take (i+1)).filter (a8s p)).length=i:=by rw [hkf,List.length_take];omega
 simp -implicitDefEqProofs(disch:=first|decide|omega)only[↓aA,aC,aB,simprocAttr,x8]
 repeat refine And.intro (by omega) ?_
 unfold bNf
 refine Wa ?_
 refine aF (σ:=Nat×List bD) (fun s=>⟨[(0,.own 2 9 0 l.length),(1,.fn (.func 140) [] [.ref 0 0 0,.ref 1 0 0]),(5,.int .i64 (((l.take s.1).filter (a8s p)).length:Int)),(6,.int .i64 (s.1:Int))],[.box [.int .i64 p],.box [.own 3 1 0 (a7F p (l.take s.1)).length],.arr 9 (s.2.map bY),.arr 1 ((a7F p (l.take s.1)).map I64)]⟩)
  (fun s=>s.1<=l.length/\bDd (a8s p) l s.1 s.2) (fun s=>l.length-s.1) (i+1,l) ?_ ⟨by simp only;omega,D⟩ ?_
 · simp only
   rw [hgi,hki]
   exact .inl rfl
 rintro ⟨j,A⟩ ⟨hj,D⟩
 simp only at hj D
 unfold bNe
 have hAn:=D.n
 have hkle:((l.take j).filter (a8s p)).length<=j:=Nat.le_trans (List.length_filter_le _ _) (by simp;omega)
 have hgle:(a7F p (l.take j)).length<=j:=by
  unfold a7F
  rw [List.length_map]
  exact Nat.le_trans (List.length_filter_le _ _) (by simp;omega)
 by_cases hjl:j<l.length
 · have hg:A.getD j default=l[j]:=by
    rw [List.getD_eq_getElem?_getD,List.getElem?_eq_getElem (by omega),Option.getD_some]
    exact D.get hjl
   have hfk:=cH (p:=a8s p) hjl
   have hfg:a7F p (l.take (j+1))=a7F p (l.take j)++if bBF p l[j]=true then [l[j].id] else []:=by
    unfold a7F
    rw [cH hjl,List.map_append]
    split<;>rfl
   have hkeep:=D.stay hjl
   have hskip:=D.skip hjl
   generalize a7F p (l.take j)=g at hfg hgle ⊢
   generalize (l.take j).filter (a8s p)=kp at hfk hkle hkeep ⊢
   simp -implicitDefEqProofs(disch:=first|decide|omega)only[↓aA,aC,aB,simprocAttr,x8,bB,aY,hg]
   repeat refine And.intro (by omega) ?_
   cases hp:bBF p l[j]
   · refine ((b9L l[j] p g hp).fr [0,1,3]).to ?_
     rintro y G ⟨y0,Hr,⟨rfl,rfl⟩,rfl,rfl⟩
     rw [hp,if_neg (by simp),List.append_nil] at hfg
     have hq:a8s p l[j]=true:=by simp [a8s,hp]
     rw [hq,if_pos rfl] at hfk
     simp -implicitDefEqProofs(disch:=first|decide|omega)only[↓aA,aC,aB,simprocAttr,x8,AV.ren,AO.ren,AV.lG,spl,j8,ext,bB,aY,x9u]
     repeat refine And.intro (by omega) ?_
     refine ⟨(j+1,A.set kp.length l[j]),?_,⟨by simp only;omega,hkeep hq⟩,by simp only;omega⟩
     simp only [hfg,hfk,List.length_append,List.length_cons,List.length_nil]
     (refine Sub.ofL [some 0,some 1,some 2,some 3] rfl (by simp) (by decide) (by simp [cQ,AO.ro,AV.ro,AV.roL,names,AO.empty,SB,U8,SI,I64,STR]<;>(try and_intros)<;>rfl) (by simp [AO.bo,AV.bo,AV.boL,names]<;>(try and_intros)<;>rfl) ?_<;>(try simp only [List.map_cons,List.map_nil,cV,AV.ro,AV.roL,AV.bo,AV.boL,names,bK,bE,Nat.reduceBEq,List.getD_cons_zero,List.getD_cons_succ,List.getD_nil,and_true,true_and,Nat.reduceLT,List.length_cons,List.length_nil,Nat.reduceAdd,decide_true,Option.isSome_some,Bool.true_or,Bool.and_self,Option.isSome_none,Bool.false_or,beq_self_eq_true,bL,bM])<;>(try and_intros)<;>(first|done|rfl|exact .inl rfl|exact .inr ⟨rfl,_,_,rfl⟩|(simp;done)|(simp;omega)|(refine .inl ?_;simp;done)|(refine .inl ?_;simp;omega)))
   · refine ((b9J l[j] p g (by omega) hp).fr [0,1,3]).to ?_
     rintro y G ⟨y0,Hr,⟨rfl,rfl⟩,rfl,rfl⟩
     rw [hp,if_pos rfl] at hfg
     have hq:a8s p l[j]=false:=by simp [a8s,hp]
     rw [hq,if_neg (by simp),List.append_nil] at hfk
     simp -implicitDefEqProofs(disch:=first|decide|omega)only[↓aA,aC,aB,simprocAttr,x8,AV.ren,AO.ren,AV.lG,spl,j8,ext,bB,aY]
     repeat refine And.intro (by omega) ?_
     refine ⟨(j+1,A),?_,⟨by simp only;omega,hskip hq⟩,by simp only;omega⟩
     simp only [hfg,hfk,List.length_append,List.length_cons,List.length_nil,List.map_append,List.map_cons,List.map_nil]
     (refine Sub.ofL [some 0,some 1,some 2,some 5] rfl (by simp) (by decide) (by simp [cQ,AO.ro,AV.ro,AV.roL,names,AO.empty,SB,U8,SI,I64,STR]<;>(try and_intros)<;>rfl) (by simp [AO.bo,AV.bo,AV.boL,names]<;>(try and_intros)<;>rfl) ?_<;>(try simp only [List.map_cons,List.map_nil,cV,AV.ro,AV.roL,AV.bo,AV.boL,names,bK,bE,Nat.reduceBEq,List.getD_cons_zero,List.getD_cons_succ,List.getD_nil,and_true,true_and,Nat.reduceLT,List.length_cons,List.length_nil,Nat.reduceAdd,decide_true,Option.isSome_some,Bool.true_or,Bool.and_self,Option.isSome_none,Bool.false_or,beq_self_eq_true,bL,bM])<;>(try and_intros)<;>(first|done|rfl|exact .inl rfl|exact .inr ⟨rfl,_,_,rfl⟩|(simp;done)|(simp;omega)|(refine .inl ?_;simp;done)|(refine .inl ?_;simp;omega)))
 have hje:j=l.length:=by omega
 subst hje
 rw [List.take_length] at hkle hgle ⊢
 have hAt:=D.t
 rw [List.take_length] at hAt
 simp -implicitDefEqProofs(disch:=first|decide|omega)only[↓aA,aC,aB,simprocAttr,x8,bB,aY]
 repeat refine And.intro (by omega) ?_
 rw [hAt,List.append_assoc]
 refine ⟨_,rfl,?_⟩
 rw [Nat.sub_zero]
 exact h1
theorem bNJ (x:dY) (p:Int):aW Tryz.prog 142 [gW x,.ref 0 0 0] [.box [.int .i64 p]] fun y G=>y= .bool (x.app==p)/\G=[.box [.int .i64 p]]:=by
 refine aW.sub (Post:=fun y G=>y= .bool (x.app==p)/\∃ o,G=[.box [.int .i64 p],o]) ?_ ?_
 · refine zL b7O (by simp) rfl ?_
   unfold b0e
   simp -implicitDefEqProofs(disch:=first|decide|omega)only[↓aA,aC,aB,simprocAttr,x8,bB,cU]
   exact ⟨_,rfl⟩
 rintro y G ⟨rfl,o,rfl⟩
 refine ⟨_,_,?_,rfl,rfl⟩
 (refine Sub.ofL [some 0] rfl (by simp) (by decide) (by simp [cQ,AO.ro,AV.ro,AV.roL,names,AO.empty,SB,U8,SI,I64,STR]<;>(try and_intros)<;>rfl) (by simp [AO.bo,AV.bo,AV.boL,names]<;>(try and_intros)<;>rfl) ?_<;>(try simp only [List.map_cons,List.map_nil,cV,AV.ro,AV.roL,AV.bo,AV.boL,names,bK,bE,Nat.reduceBEq,List.getD_cons_zero,List.getD_cons_succ,List.getD_nil,and_true,true_and,Nat.reduceLT,List.length_cons,List.length_nil,Nat.reduceAdd,decide_true,Option.isSome_some,Bool.true_or,Bool.and_self,Option.isSome_none,Bool.false_or,beq_self_eq_true,bL,bM])<;>(try and_intros)<;>(first|done|rfl|exact .inl rfl|exact .inr ⟨rfl,_,_,rfl⟩|(simp;done)|(simp;omega)|(refine .inl ?_;simp;done)|(refine .inl ?_;simp;omega)))
def FNT:AV:=.fn (.func 142) [] [.ref 0 0 0]
def bDQ (p:Int) (c:dY):Bool:=c.app==p
def a9i (p:Int) (c:dY):Bool:= !bDQ p c
theorem b28 (p:Int) (l:List dY) (hl:l.length<2^36):aW Tryz.prog 171 [.own 1 3 0 l.length,FNT] [.box [.int .i64 p],.arr 3 (l.map gW)] fun y G=>y= .int .i64 (uK (bDQ p) l)/\G=[.box [.int .i64 p],.arr 3 (l.map gW)]:=by
 refine zL b7w (by simp) rfl ?_
 unfold bZR FNT
 refine Wa ?_
 unfold bMv
 refine Wa ?_
 refine aF (σ:=Nat) (fun i=>⟨[(0,.own 1 3 0 l.length),(1,.fn (.func 142) [] [.ref 0 0 0]),(7,.int .i64 (l.length:Int)),(8,.int .i64 (i:Int))],[.box [.int .i64 p],.arr 3 (l.map gW)]⟩)
  (fun i=>i<=l.length/\∀ j,(h:j<i)->(h2:j<l.length)->bDQ p l[j]=false) (fun i=>l.length-i) 0 (.inl rfl) ⟨by omega,fun j h=>by omega⟩ ?_
 rintro i ⟨hii,hn⟩
 unfold bMu
 by_cases hil:i<l.length
 · have hg:l.getD i default=l[i]:=by simp [hil]
   simp -implicitDefEqProofs(disch:=first|decide|omega)only[↓aA,aC,aB,simprocAttr,x8,bB,cU,hg]
   repeat refine And.intro (by omega) ?_
   refine ((bNJ l[i] p).fr [0]).to ?_
   rintro y G ⟨y0,Hr,⟨rfl,rfl⟩,rfl,rfl⟩
   cases hp:l[i].app==p
   · simp -implicitDefEqProofs(disch:=first|decide|omega)only[↓aA,aC,aB,simprocAttr,x8,AV.ren,AO.ren,AV.lG,spl,j8,ext]
     repeat refine And.intro (by omega) ?_
     refine ⟨i+1,.inl rfl,⟨by omega,fun j h h2=>?_⟩,by omega⟩
     by_cases hj:j=i
     · subst hj;exact hp
     · exact hn j (by omega) h2
   · simp -implicitDefEqProofs(disch:=first|decide|omega)only[↓aA,aC,aB,simprocAttr,x8,AV.ren,AO.ren,AV.lG,spl,j8,ext]
     rw [aSq (p:=bDQ p) hil (fun j hj=>hn j hj (by omega)) hp]
 · have:i=l.length:=by omega
   subst this
   refine Wa ?_
   rw [aSp fun j hj=>hn j hj hj]
theorem b3p (p:Int) (l:List dY) (hl:l.length<2^36):aW Tryz.prog 141 [.own 1 3 0 l.length,FNT] [.box [.int .i64 p],.arr 3 (l.map gW)] fun y G=>y= .own 1 3 0 (l.filter (a9i p)).length/\G=[.box [.int .i64 p],.arr 3 ((l.filter (a9i p)).map gW)]:=by
 refine aW.b8v 1 (z:=3) (l:=(l.filter (a9i p)).map gW) ?_
 refine zL b7P (by simp) rfl ?_
 unfold b0f FNT
 refine Wa ?_
 refine (b28 p l hl).to ?_
 rintro y G ⟨rfl,rfl⟩
 rcases yU (bDQ p) l with ⟨h1,h2⟩|⟨i,hi,h1,h2,_,h3⟩
 · have e1:l.filter (a9i p)=l:=List.filter_eq_self.2 fun x hx=>by
    have:=List.find?_eq_none.1 h2 x hx
    unfold a9i
    simpa using this
   rw [h1]
   refine Wa ?_
   refine ⟨[],?_,?_⟩
   · rw [e1,List.append_nil]
   · rw [e1]
 obtain ⟨D,hkf⟩:=bDd.first (q:=a9i p) hi (by simp [a9i,h2]) (fun j hj=>by simp [a9i,h3 j hj])
 have hki:((l.take (i+1)).filter (a9i p)).length=i:=by rw [hkf,List.length_take];omega
 rw [h1]
 simp -implicitDefEqProofs(disch:=first|decide|omega)only[↓aA,aC,aB,simprocAttr,x8]
 repeat refine And.intro (by omega) ?_
 unfold bNd
 refine Wa ?_
 refine aF (σ:=Nat×List dY) (fun s=>⟨[(0,.own 1 3 0 l.length),(1,.fn (.func 142) [] [.ref 0 0 0]),(5,.int .i64 (((l.take s.1).filter (a9i p)).length:Int)),(6,.int .i64 (s.1:Int))],[.box [.int .i64 p],.arr 3 (s.2.map gW)]⟩)
  (fun s=>s.1<=l.length/\bDd (a9i p) l s.1 s.2) (fun s=>l.length-s.1) (i+1,l) ?_ ⟨by simp only;omega,D⟩ ?_
 · simp only
   rw [hki]
   exact .inl rfl
 rintro ⟨j,A⟩ ⟨hj,D⟩
 simp only at hj D
 unfold bNc
 have hAn:=D.n
 have hkle:((l.take j).filter (a9i p)).length<=j:=Nat.le_trans (List.length_filter_le _ _) (by simp;omega)
 by_cases hjl:j<l.length
 · have hg:A.getD j default=l[j]:=by
    rw [List.getD_eq_getElem?_getD,List.getElem?_eq_getElem (by omega),Option.getD_some]
    exact D.get hjl
   have hfk:=cH (p:=a9i p) hjl
   have hkeep:=D.stay hjl
   have hskip:=D.skip hjl
   generalize (l.take j).filter (a9i p)=kp at hfk hkle hkeep ⊢
   simp -implicitDefEqProofs(disch:=first|decide|omega)only[↓aA,aC,aB,simprocAttr,x8,bB,cU,hg]
   repeat refine And.intro (by omega) ?_
   refine ((bNJ l[j] p).fr [0]).to ?_
   rintro y G ⟨y0,Hr,⟨rfl,rfl⟩,rfl,rfl⟩
   cases hp:l[j].app==p
   · have hq:a9i p l[j]=true:=by simp [a9i,bDQ,hp]
     rw [hq,if_pos rfl] at hfk
     simp -implicitDefEqProofs(disch:=first|decide|omega)only[↓aA,aC,aB,simprocAttr,x8,AV.ren,AO.ren,AV.lG,spl,j8,ext,bB,cU,x9v]
     repeat refine And.intro (by omega) ?_
     refine ⟨(j+1,A.set kp.length l[j]),?_,⟨by simp only;omega,hkeep hq⟩,by simp only;omega⟩
     simp only [hfk,List.length_append,List.length_cons,List.length_nil]
     (refine Sub.ofL [some 0,some 1] rfl (by simp) (by decide) (by simp [cQ,AO.ro,AV.ro,AV.roL,names,AO.empty,SB,U8,SI,I64,STR]<;>(try and_intros)<;>rfl) (by simp [AO.bo,AV.bo,AV.boL,names]<;>(try and_intros)<;>rfl) ?_<;>(try simp only [List.map_cons,List.map_nil,cV,AV.ro,AV.roL,AV.bo,AV.boL,names,bK,bE,Nat.reduceBEq,List.getD_cons_zero,List.getD_cons_succ,List.getD_nil,and_true,true_and,Nat.reduceLT,List.length_cons,List.length_nil,Nat.reduceAdd,decide_true,Option.isSome_some,Bool.true_or,Bool.and_self,Option.isSome_none,Bool.false_or,beq_self_eq_true,bL,bM])<;>(try and_intros)<;>(first|done|rfl|exact .inl rfl|exact .inr ⟨rfl,_,_,rfl⟩|(simp;done)|(simp;omega)|(refine .inl ?_;simp;done)|(refine .inl ?_;simp;omega)))
   · have hq:a9i p l[j]=false:=by simp [a9i,bDQ,hp]
     rw [hq,if_neg (by simp),List.append_nil] at hfk
     simp -implicitDefEqProofs(disch:=first|decide|omega)only[↓aA,aC,aB,simprocAttr,x8,AV.ren,AO.ren,AV.lG,spl,j8,ext,bB,cU]
     repeat refine And.intro (by omega) ?_
     refine ⟨(j+1,A),?_,⟨by simp only;omega,hskip hq⟩,by simp only;omega⟩
     simp only [hfk]
     (refine Sub.ofL [some 0,some 1] rfl (by simp) (by decide) (by simp [cQ,AO.ro,AV.ro,AV.roL,names,AO.empty,SB,U8,SI,I64,STR]<;>(try and_intros)<;>rfl) (by simp [AO.bo,AV.bo,AV.boL,names]<;>(try and_intros)<;>rfl) ?_<;>(try simp only [List.map_cons,List.map_nil,cV,AV.ro,AV.roL,AV.bo,AV.boL,names,bK,bE,Nat.reduceBEq,List.getD_cons_zero,List.getD_cons_succ,List.getD_nil,and_true,true_and,Nat.reduceLT,List.length_cons,List.length_nil,Nat.reduceAdd,decide_true,Option.isSome_some,Bool.true_or,Bool.and_self,Option.isSome_none,Bool.false_or,beq_self_eq_true,bL,bM])<;>(try and_intros)<;>(first|done|rfl|exact .inl rfl|exact .inr ⟨rfl,_,_,rfl⟩|(simp;done)|(simp;omega)|(refine .inl ?_;simp;done)|(refine .inl ?_;simp;omega)))
 have hje:j=l.length:=by omega
 subst hje
 rw [List.take_length] at hkle ⊢
 have hAt:=D.t
 rw [List.take_length] at hAt
 simp -implicitDefEqProofs(disch:=first|decide|omega)only[↓aA,aC,aB,simprocAttr,x8,bB,cU]
 repeat refine And.intro (by omega) ?_
 rw [hAt,List.append_assoc]
 refine ⟨_,rfl,?_⟩
 rw [Nat.sub_zero]
def cel (ls:List (List UInt8)) (qn:Nat) (nodes:List Node) (n k m:Nat) (plans:List dR) (now ep sq:Int):List AV:=[.sl false 1 (ls.map .str),.own 0 3 0 qn,.sl false 8 (nodes.map bO),.own 3 14 0 n,.own 1 9 0 k,.own 2 3 0 m,.sl false 6 (plans.map eD),.int .i64 now,.int .i64 ep,.int .i64 sq]
theorem bPN (ls:List (List UInt8)) (qs:List Queue) (nodes:List Node) (L:List AV) (n:Nat) (conts:List bD) (slots:List dY) (plans:List dR) (now ep sq p:Int) (hc:conts.length<2^36) (hs:slots.length<2^36) :
 aW Tryz.prog 84 [.agg (cel ls qs.length nodes n conts.length slots.length plans now ep sq),.int .i64 p] [.arr 3 (qs.map QUE),.arr 9 (conts.map bY),.arr 3 (slots.map gW),.arr 14 L] fun y G =>
  (a7F p conts=[]/\y= .tup [.agg (cel ls qs.length nodes n (conts.filter (a8s p)).length (slots.filter (a9i p)).length plans now ep sq),.aD]/\G=[.arr 3 (qs.map QUE),.arr 9 ((conts.filter (a8s p)).map bY),.arr 3 ((slots.filter (a9i p)).map gW),.arr 14 L]) ∨
  (y= .tup [.agg (cel ls qs.length nodes n (conts.filter (a8s p)).length (slots.filter (a9i p)).length plans now ep sq),.own 4 1 0 (a7F p conts).length]/\G=[.arr 3 (qs.map QUE),.arr 9 ((conts.filter (a8s p)).map bY),.arr 3 ((slots.filter (a9i p)).map gW),.arr 14 L,.arr 1 ((a7F p conts).map I64)]):=by
 have key:aW Tryz.prog 84 [.agg (cel ls qs.length nodes n conts.length slots.length plans now ep sq),.int .i64 p] [.arr 3 (qs.map QUE),.arr 9 (conts.map bY),.arr 3 (slots.map gW),.arr 14 L] fun y G =>
  (a7F p conts=[]/\y= .tup [.agg (cel ls qs.length nodes n (conts.filter (a8s p)).length (slots.filter (a9i p)).length plans now ep sq),.aD]/\∃ o1 o2 o3 o4,G=[.arr 3 (qs.map QUE),.arr 9 ((conts.filter (a8s p)).map bY),.arr 3 ((slots.filter (a9i p)).map gW),.arr 14 L,o1,o2,o3,o4]) ∨
  (y= .tup [.agg (cel ls qs.length nodes n (conts.filter (a8s p)).length (slots.filter (a9i p)).length plans now ep sq),.own 8 1 0 (a7F p conts).length]/\∃ o1 o2 o3 o4,G=[.arr 3 (qs.map QUE),.arr 9 ((conts.filter (a8s p)).map bY),.arr 3 ((slots.filter (a9i p)).map gW),.arr 14 L,o1,o2,o3,o4,.arr 1 ((a7F p conts).map I64)]):=by
  refine aGc b6l (by simp) rfl ?_
  unfold b8S cel
  have h139:=b3q p conts hc (fun y G=>(a7F p conts=[]/\y= .own 2 9 0 (conts.filter (a8s p)).length/\G=[.box [.int .i64 p],.box [.aD],.arr 9 ((conts.filter (a8s p)).map bY)])∨(y= .own 2 9 0 (conts.filter (a8s p)).length/\G=[.box [.int .i64 p],.box [.own 3 1 0 (a7F p conts).length],.arr 9 ((conts.filter (a8s p)).map bY),.arr 1 ((a7F p conts).map I64)])) (fun h1 h2=>.inl ⟨h1,by rw [h2],by rw [h2]⟩) (.inr ⟨rfl,rfl⟩)
  have h141:=b3p p slots hs
  unfold FNS at h139
  unfold FNT at h141
  generalize a7F p conts=g at h139 ⊢
  generalize conts.filter (a8s p)=kc at h139 ⊢
  generalize slots.filter (a9i p)=ks at h141 ⊢
  refine Wb ?_
  refine (h139.fr [5,7,1]).to ?_
  rintro y G ⟨y0,Hr,⟨hg,rfl,rfl⟩|⟨rfl,rfl⟩,rfl,rfl⟩
  · refine Ws ?_
    refine (h141.fr [5,2]).to ?_
    rintro y G ⟨y0,Hr,⟨rfl,rfl⟩,rfl,rfl⟩
    refine Ws ?_
    exact .inl ⟨hg,_,_,_,_,rfl⟩
  · refine Ws ?_
    refine (h141.fr [5,2]).to ?_
    rintro y G ⟨y0,Hr,⟨rfl,rfl⟩,rfl,rfl⟩
    refine Ws ?_
    exact .inr ⟨_,_,_,_,rfl⟩
 refine key.sub ?_
 rintro y G (⟨hg,rfl,o1,o2,o3,o4,rfl⟩|⟨rfl,o1,o2,o3,o4,rfl⟩)
 · refine ⟨_,_,?_,.inl ⟨hg,rfl,rfl⟩⟩
   unfold cel
   (refine Sub.ofL [some 0,some 1,some 2,some 3] rfl (by simp) (by decide) (by simp [cQ,AO.ro,AV.ro,AV.roL,names,AO.empty,SB,U8,SI,I64,STR]<;>(try and_intros)<;>rfl) (by simp [AO.bo,AV.bo,AV.boL,names]<;>(try and_intros)<;>rfl) ?_<;>(try simp only [List.map_cons,List.map_nil,cV,AV.ro,AV.roL,AV.bo,AV.boL,names,bK,bE,Nat.reduceBEq,List.getD_cons_zero,List.getD_cons_succ,List.getD_nil,and_true,true_and,Nat.reduceLT,List.length_cons,List.length_nil,Nat.reduceAdd,decide_true,Option.isSome_some,Bool.true_or,Bool.and_self,Option.isSome_none,Bool.false_or,beq_self_eq_true,bL,bM])<;>(try and_intros)<;>(first|done|rfl|exact .inl rfl|exact .inr ⟨rfl,_,_,rfl⟩|(simp;done)|(simp;omega)|(refine .inl ?_;simp;done)|(refine .inl ?_;simp;omega)))
 · refine ⟨_,_,?_,.inr ⟨rfl,rfl⟩⟩
   unfold cel
   (refine Sub.ofL [some 0,some 1,some 2,some 3,some 8] rfl (by simp) (by decide) (by simp [cQ,AO.ro,AV.ro,AV.roL,names,AO.empty,SB,U8,SI,I64,STR]<;>(try and_intros)<;>rfl) (by simp [AO.bo,AV.bo,AV.boL,names]<;>(try and_intros)<;>rfl) ?_<;>(try simp only [List.map_cons,List.map_nil,cV,AV.ro,AV.roL,AV.bo,AV.boL,names,bK,bE,Nat.reduceBEq,List.getD_cons_zero,List.getD_cons_succ,List.getD_nil,and_true,true_and,Nat.reduceLT,List.length_cons,List.length_nil,Nat.reduceAdd,decide_true,Option.isSome_some,Bool.true_or,Bool.and_self,Option.isSome_none,Bool.false_or,beq_self_eq_true,bL,bM])<;>(try and_intros)<;>(first|done|rfl|exact .inl rfl|exact .inr ⟨rfl,_,_,rfl⟩|(simp;done)|(simp;omega)|(refine .inl ?_;simp;done)|(refine .inl ?_;simp;omega)))
end Go.Proofs.YtakemdamegfcfaaGreat
