/- How End computes. No condition. -/
import Derived.Test.YtakemdamegfcfaaGreatU37
import Derived.Test.YtakemdamegfcfaaGreatU43
set_option linter.unusedSimpArgs false
set_option linter.unusedVariables false
set_option maxRecDepth 20000
namespace Go.Proofs.YtakemdamegfcfaaGreat
open Go Go.Ab
theorem b9M (x:bD) (p:Int) (hx:(x.app==p)=false):aW Tryz.prog 140 [bY x,.ref 0 0 0,.ref 1 0 0] [.box [.int .i64 p],.box [.aD]] fun y G=>y= .bool false/\G=[.box [.int .i64 p],.box [.aD]]:=by
 refine aW.sub (Post:=fun y G=>y= .bool false/\∃ o,G=[.box [.int .i64 p],.box [.aD],o]) ?_ ?_
 · refine zL bKv (by simp) rfl ?_
   unfold bH8
   simp -implicitDefEqProofs(disch:=first|decide|omega)only[↓aA,aC,aB,simprocAttr,x8,bB,aY,hx]
   exact ⟨_,rfl⟩
 rintro y G ⟨rfl,o,rfl⟩
 refine ⟨_,_,?_,rfl,rfl⟩
 (refine Sub.ofL [some 0,some 1] rfl (by simp) (by decide) (by simp [cQ,AO.ro,AV.ro,AV.roL,names,AO.empty,SB,U8,SI,I64,STR]<;>(try and_intros)<;>rfl) (by simp [AO.bo,AV.bo,AV.boL,names]<;>(try and_intros)<;>rfl) ?_<;>(try simp only [List.map_cons,List.map_nil,cV,AV.ro,AV.roL,AV.bo,AV.boL,names,bK,bE,Nat.reduceBEq,List.getD_cons_zero,List.getD_cons_succ,List.getD_nil,and_true,true_and,Nat.reduceLT,List.length_cons,List.length_nil,Nat.reduceAdd,decide_true,Option.isSome_some,Bool.true_or,Bool.and_self,Option.isSome_none,Bool.false_or,beq_self_eq_true,bL,bM])<;>(try and_intros)<;>(first|done|rfl|exact .inl rfl|exact .inr ⟨rfl,_,_,rfl⟩|(simp;done)|(simp;omega)|(refine .inl ?_;simp;done)|(refine .inl ?_;simp;omega)))
theorem b9L (x:bD) (p:Int) (l:List Int) (hx:(x.app==p)=false):aW Tryz.prog 140 [bY x,.ref 0 0 0,.ref 1 0 0] [.box [.int .i64 p],.box [.own 2 1 0 l.length],.arr 1 (l.map I64)] fun y G=>y= .bool false/\G=[.box [.int .i64 p],.box [.own 2 1 0 l.length],.arr 1 (l.map I64)]:=by
 refine aW.sub (Post:=fun y G=>y= .bool false/\∃ o,G=[.box [.int .i64 p],.box [.own 2 1 0 l.length],.arr 1 (l.map I64),o]) ?_ ?_
 · refine zL bKv (by simp) rfl ?_
   unfold bH8
   simp -implicitDefEqProofs(disch:=first|decide|omega)only[↓aA,aC,aB,simprocAttr,x8,bB,aY,hx]
   exact ⟨_,rfl⟩
 rintro y G ⟨rfl,o,rfl⟩
 refine ⟨_,_,?_,rfl,rfl⟩
 (refine Sub.ofL [some 0,some 1,some 2] rfl (by simp) (by decide) (by simp [cQ,AO.ro,AV.ro,AV.roL,names,AO.empty,SB,U8,SI,I64,STR]<;>(try and_intros)<;>rfl) (by simp [AO.bo,AV.bo,AV.boL,names]<;>(try and_intros)<;>rfl) ?_<;>(try simp only [List.map_cons,List.map_nil,cV,AV.ro,AV.roL,AV.bo,AV.boL,names,bK,bE,Nat.reduceBEq,List.getD_cons_zero,List.getD_cons_succ,List.getD_nil,and_true,true_and,Nat.reduceLT,List.length_cons,List.length_nil,Nat.reduceAdd,decide_true,Option.isSome_some,Bool.true_or,Bool.and_self,Option.isSome_none,Bool.false_or,beq_self_eq_true,bL,bM])<;>(try and_intros)<;>(first|done|rfl|exact .inl rfl|exact .inr ⟨rfl,_,_,rfl⟩|(simp;done)|(simp;omega)|(refine .inl ?_;simp;done)|(refine .inl ?_;simp;omega)))
theorem b9K (x:bD) (p:Int) (hx:(x.app==p)=true):aW Tryz.prog 140 [bY x,.ref 0 0 0,.ref 1 0 0] [.box [.int .i64 p],.box [.aD]] fun y G=>y= .bool true/\G=[.box [.int .i64 p],.box [.own 2 1 0 1],.arr 1 [I64 x.id]]:=by
 refine aW.sub (Post:=fun y G=>y= .bool true/\∃ o1 o2,G=[.box [.int .i64 p],.box [.own 4 1 0 1],o1,o2,.arr 1 [I64 x.id]]) ?_ ?_
 · refine zL bKv (by simp) rfl ?_
   unfold bH8
   simp -implicitDefEqProofs(disch:=first|decide|omega)only[↓aA,aC,aB,simprocAttr,x8,bB,aY,hx]
   exact ⟨_,_,rfl⟩
 rintro y G ⟨rfl,o1,o2,rfl⟩
 refine ⟨_,_,?_,rfl,rfl⟩
 (refine Sub.ofL [some 0,some 1,some 4] rfl (by simp) (by decide) (by simp [cQ,AO.ro,AV.ro,AV.roL,names,AO.empty,SB,U8,SI,I64,STR]<;>(try and_intros)<;>rfl) (by simp [AO.bo,AV.bo,AV.boL,names]<;>(try and_intros)<;>rfl) ?_<;>(try simp only [List.map_cons,List.map_nil,cV,AV.ro,AV.roL,AV.bo,AV.boL,names,bK,bE,Nat.reduceBEq,List.getD_cons_zero,List.getD_cons_succ,List.getD_nil,and_true,true_and,Nat.reduceLT,List.length_cons,List.length_nil,Nat.reduceAdd,decide_true,Option.isSome_some,Bool.true_or,Bool.and_self,Option.isSome_none,Bool.false_or,beq_self_eq_true,bL,bM])<;>(try and_intros)<;>(first|done|rfl|exact .inl rfl|exact .inr ⟨rfl,_,_,rfl⟩|(simp;done)|(simp;omega)|(refine .inl ?_;simp;done)|(refine .inl ?_;simp;omega)))
theorem b9J (x:bD) (p:Int) (l:List Int) (hl:l.length<2^40) (hx:(x.app==p)=true):aW Tryz.prog 140 [bY x,.ref 0 0 0,.ref 1 0 0] [.box [.int .i64 p],.box [.own 2 1 0 l.length],.arr 1 (l.map I64)] fun y G=>y= .bool true/\G=[.box [.int .i64 p],.box [.own 3 1 0 (l.length+1)],.dead,.arr 1 (l.map I64++[I64 x.id])]:=by
 refine aW.sub (Post:=fun y G=>y= .bool true/\∃ o2 o3,G=[.box [.int .i64 p],.box [.own 5 1 0 (l.length+1)],.dead,o2,o3,.arr 1 (l.map I64++[I64 x.id])]) ?_ ?_
 · refine zL bKv (by simp) rfl ?_
   unfold bH8
   simp -implicitDefEqProofs(disch:=first|decide|omega)only[↓aA,aC,aB,simprocAttr,x8,bB,aY,hx]
   exact ⟨⟨by omega,by omega⟩,_,_,rfl⟩
 rintro y G ⟨rfl,o2,o3,rfl⟩
 refine ⟨_,_,?_,rfl,rfl⟩
 (refine Sub.ofL [some 0,some 1,some 2,some 5] rfl (by simp) (by decide) (by simp [cQ,AO.ro,AV.ro,AV.roL,names,AO.empty,SB,U8,SI,I64,STR]<;>(try and_intros)<;>rfl) (by simp [AO.bo,AV.bo,AV.boL,names]<;>(try and_intros)<;>rfl) ?_<;>(try simp only [List.map_cons,List.map_nil,cV,AV.ro,AV.roL,AV.bo,AV.boL,names,bK,bE,Nat.reduceBEq,List.getD_cons_zero,List.getD_cons_succ,List.getD_nil,and_true,true_and,Nat.reduceLT,List.length_cons,List.length_nil,Nat.reduceAdd,decide_true,Option.isSome_some,Bool.true_or,Bool.and_self,Option.isSome_none,Bool.false_or,beq_self_eq_true,bL,bM])<;>(try and_intros)<;>(first|done|rfl|exact .inl rfl|exact .inr ⟨rfl,_,_,rfl⟩|(simp;done)|(simp;omega)|(refine .inl ?_;simp;done)|(refine .inl ?_;simp;omega)))
def FNS:AV:=.fn (.func 140) [] [.ref 0 0 0,.ref 1 0 0]
def bBF (p:Int) (c:bD):Bool:=c.app==p
set_option maxHeartbeats 2000000 in
theorem b8b (p:Int) (l:List bD) (hl:l.length<2^36) (Post:AV->List AO->Prop) (h0:uK (bBF p) l= -1->Post (.int .i64 (-1)) [.box [.int .i64 p],.box [.aD],.arr 9 (l.map bY)])
 (h1:∀ i,(hi:i<l.length)->uK (bBF p) l=(i:Int)->bBF p l[i]=true->(∀ j,(hj:j<i)->bBF p (l[j]'(by omega))=false)->Post (.int .i64 i) [.box [.int .i64 p],.box [.own 3 1 0 1],.arr 9 (l.map bY),.arr 1 [I64 l[i].id]]) :
 aW Tryz.prog 85 [.own 2 9 0 l.length,FNS] [.box [.int .i64 p],.box [.aD],.arr 9 (l.map bY)] Post:=by
 refine zL cAE (by simp) rfl ?_
 unfold b8R FNS
 refine Wa ?_
 unfold bSG
 refine Wa ?_
 refine aF (σ:=Nat) (fun i=>⟨[(0,.own 2 9 0 l.length),(1,.fn (.func 140) [] [.ref 0 0 0,.ref 1 0 0]),(7,.int .i64 (l.length:Int)),(8,.int .i64 (i:Int))],[.box [.int .i64 p],.box [.aD],.arr 9 (l.map bY)]⟩)
  (fun i=>i<=l.length/\∀ j,(h:j<i)->(h2:j<l.length)->bBF p l[j]=false) (fun i=>l.length-i) 0 (.inl rfl) ⟨by omega,fun j h=>by omega⟩ ?_
 rintro i ⟨hii,hn⟩
 unfold bSF
 by_cases hil:i<l.length
 · have hg:l.getD i default=l[i]:=by simp [hil]
   simp -implicitDefEqProofs(disch:=first|decide|omega)only[↓aA,aC,aB,simprocAttr,x8,bB,aY,hg]
   repeat refine And.intro (by omega) ?_
   cases hp:bBF p l[i]
   · refine ((b9M l[i] p hp).fr [0,1]).to ?_
     rintro y G ⟨y0,Hr,⟨rfl,rfl⟩,rfl,rfl⟩
     simp -implicitDefEqProofs(disch:=first|decide|omega)only[↓aA,aC,aB,simprocAttr,x8,AV.ren,AO.ren,AV.lG,spl,j8,ext]
     repeat refine And.intro (by omega) ?_
     refine ⟨i+1,.inl rfl,⟨by omega,fun j h h2=>?_⟩,by omega⟩
     by_cases hj:j=i
     · subst hj;exact hp
     · exact hn j (by omega) h2
   · refine ((b9K l[i] p hp).fr [0,1]).to ?_
     rintro y G ⟨y0,Hr,⟨rfl,rfl⟩,rfl,rfl⟩
     simp -implicitDefEqProofs(disch:=first|decide|omega)only[↓aA,aC,aB,simprocAttr,x8,AV.ren,AO.ren,AV.lG,spl,j8,ext]
     exact h1 i hil (aSq hil (fun j hj=>hn j hj (by omega)) hp) hp (fun j hj=>hn j hj (by omega))
 · have:i=l.length:=by omega
   subst this
   refine Wa ?_
   exact h0 (aSp fun j hj=>hn j hj hj)
end Go.Proofs.YtakemdamegfcfaaGreat
