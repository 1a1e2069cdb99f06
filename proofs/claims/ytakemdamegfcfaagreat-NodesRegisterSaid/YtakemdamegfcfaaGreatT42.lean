/- A part of a proof: what functions of the program compute. No condition. -/
import Derived.Test.YtakemdamegfcfaaGreatT41
import Derived.Test.YtakemdamegfcfaaGreatProg
import Derived.KernelRfl
import Derived.Test.YtakemdamegfcfaaGreatT6
set_option linter.unusedSimpArgs false
set_option linter.unusedVariables false
set_option maxHeartbeats 16000000
set_option maxRecDepth 100000
namespace Go.Proofs.YtakemdamegfcfaaGreat
open Go Go.Ab
def GP.add (g:GP) (r:Nat) (u:Int):GP:={ g with r:=r,us:=fun q=>if q=g.l.length then u else g.us q,l:=g.l++[g.l.length] }
def uB (cs:Nat->List Cap) (j n:Nat):Nat->List Cap:=fun q=>if q=j then List.replicate n W0 else cs q
set_option maxHeartbeats 16000000 in
theorem aUw (g:GP) (hl:GM g.l) (hnl:g.labs.length=1∨g.labs.length=2) (u:Int) (cs:Nat->List Cap) (Q:AE->St->Prop)
 (hQ:∀ (r':Nat) (H':List AO),Sub 0 ⟨[(1,.sl true 1 (g.ns.map I64)),(4,.ref 0 0 0),(6,.ref 1 0 0),(7,.sl false 1 (g.pl.map .str)),(8,.int .i64 ((g.l.length:Int)+1))],H'⟩ ⟨[(1,.sl true 1 (g.ns.map I64)),(4,.ref 0 0 0),(6,.ref 1 0 0),(7,.sl false 1 (g.pl.map .str)),(8,.int .i64 ((g.l.length:Int)+1))],(g.add r' u).B (uB cs g.l.length g.labs.length)⟩->Q .normal ⟨[(1,.sl true 1 (g.ns.map I64)),(4,.ref 0 0 0),(6,.ref 1 0 0),(7,.sl false 1 (g.pl.map .str)),(8,.int .i64 (g.l.length:Int))],H'⟩) :
 aw Tryz.prog wR Q ⟨[(1,.sl true 1 (g.ns.map I64)),(4,.ref 0 0 0),(6,.ref 1 0 0),(7,.sl false 1 (g.pl.map .str)),(8,.int .i64 (g.l.length:Int)),(9,.ref (gb g.l) 0 0)],g.B cs++cW (g.ps g.l.length) u (gb g.l) 0⟩:=by
 unfold wR
 simp -implicitDefEqProofs(disch:=first|decide|omega)only[↓aA,aC,aB,simprocAttr]
 unfold aJo
 simp -implicitDefEqProofs(disch:=first|decide|omega)only[↓aA,aC,aB,simprocAttr]
 refine aW9 g hl hnl _ u _ cs _ (fun k hk=>?_) _ (.inl rfl)
 have hk2:k=1∨k=2:=by omega
 obtain ⟨ns,labs,pl,r,ps,us,l⟩:=g
 simp only at hl hnl hk hQ ⊢
 cases hl
 · rcases hk2 with rfl|rfl
   all_goals
    simp only [GP.B,GP.H,gQ,gA,gb,cW,List.cons_append,List.nil_append,List.length_cons,List.length_nil,List.replicate,List.map_cons,List.map_nil]
    simp -implicitDefEqProofs(disch:=first|decide|omega)only[↓aA,aC,aB,simprocAttr]
    refine lD (by decide) rfl rfl (fun y hy=>?_) ?_
    · simp only [ev,bX.get,AV.cells] at hy
      simp only [↓reduceIte,Nat.reduceEqDiff,List.mem_cons,List.not_mem_nil,or_false] at hy
      rcases hy with rfl|rfl|rfl<;>rfl
    simp -implicitDefEqProofs(disch:=first|decide|omega)only[↓aA,aC,aB,simprocAttr]
    refine lE (n:=0) (m:=1) (by decide) (by decide) (.inl ⟨rfl,rfl,rfl⟩) (by simp) rfl rfl rfl (by decide) (by decide) (fun r'=>?_)
    simp -implicitDefEqProofs(disch:=first|decide|omega)only[↓aA,aC,aB,simprocAttr,List.take_succ_cons,List.take_zero,List.cons_append,List.nil_append,Nat.reduceMul]
    refine hQ r' _ ?_
    simp only [GP.add,uB,GP.B,GP.H,gQ,gA,List.cons_append,List.nil_append,List.length_cons,List.length_nil,List.length_append,↓reduceIte,Nat.reduceEqDiff,Nat.one_ne_zero,Nat.zero_ne_one,<- hk,List.replicate,List.map_cons,List.map_nil]
    (refine Sub.ofL [some 0,some 1,some 5,some 3] rfl (by simp) (by decide) (by simp [cQ,AO.ro,AV.ro,AV.roL,names,AO.empty,SB,U8,SI,I64,STR]<;>(try and_intros)<;>rfl) (by simp [AO.bo,AV.bo,AV.boL,names]<;>(try and_intros)<;>rfl) ?_<;>(try simp only [List.map_cons,List.map_nil,cV,AV.ro,AV.roL,AV.bo,AV.boL,names,bK,bE,Nat.reduceBEq,List.getD_cons_zero,List.getD_cons_succ,List.getD_nil,and_true,true_and,Nat.reduceLT,List.length_cons,List.length_nil,Nat.reduceAdd,decide_true,Option.isSome_some,Bool.true_or,Bool.and_self,Option.isSome_none,Bool.false_or,beq_self_eq_true,bL,bM])<;>(try and_intros)<;>(first|done|rfl|exact .inl rfl|exact .inr ⟨rfl,_,_,rfl⟩|(simp;done)|(simp;omega)|(refine .inl ?_;simp;done)|(refine .inl ?_;simp;omega)))
 · rcases hk2 with rfl|rfl
   all_goals
    simp only [GP.B,GP.H,gQ,gA,gb,cW,List.cons_append,List.nil_append,List.length_cons,List.length_nil,List.replicate,List.map_cons,List.map_nil]
    simp -implicitDefEqProofs(disch:=first|decide|omega)only[↓aA,aC,aB,simprocAttr]
    refine lD (by decide) rfl rfl (fun y hy=>?_) ?_
    · simp only [ev,bX.get,AV.cells] at hy
      simp only [↓reduceIte,Nat.reduceEqDiff,List.mem_cons,List.not_mem_nil,or_false] at hy
      rcases hy with rfl|rfl|rfl<;>rfl
    simp -implicitDefEqProofs(disch:=first|decide|omega)only[↓aA,aC,aB,simprocAttr]
    refine lE (n:=1) (m:=1) (by decide) (by decide) (.inr ⟨2,rfl,rfl⟩) (by simp only [List.length_cons];omega) rfl rfl rfl (by decide) (by decide) (fun r'=>?_)
    simp -implicitDefEqProofs(disch:=first|decide|omega)only[↓aA,aC,aB,simprocAttr,List.take_succ_cons,List.take_zero,List.cons_append,List.nil_append,Nat.reduceMul]
    refine hQ r' _ ?_
    simp only [GP.add,uB,GP.B,GP.H,gQ,gA,List.cons_append,List.nil_append,List.length_cons,List.length_nil,List.length_append,↓reduceIte,Nat.reduceEqDiff,Nat.one_ne_zero,Nat.zero_ne_one,<- hk,List.replicate,List.map_cons,List.map_nil]
    (refine Sub.ofL [some 0,some 1,some 7,some 3,some 5] rfl (by simp) (by decide) (by simp [cQ,AO.ro,AV.ro,AV.roL,names,AO.empty,SB,U8,SI,I64,STR]<;>(try and_intros)<;>rfl) (by simp [AO.bo,AV.bo,AV.boL,names]<;>(try and_intros)<;>rfl) ?_<;>(try simp only [List.map_cons,List.map_nil,cV,AV.ro,AV.roL,AV.bo,AV.boL,names,bK,bE,Nat.reduceBEq,List.getD_cons_zero,List.getD_cons_succ,List.getD_nil,and_true,true_and,Nat.reduceLT,List.length_cons,List.length_nil,Nat.reduceAdd,decide_true,Option.isSome_some,Bool.true_or,Bool.and_self,Option.isSome_none,Bool.false_or,beq_self_eq_true,bL,bM])<;>(try and_intros)<;>(first|done|rfl|exact .inl rfl|exact .inr ⟨rfl,_,_,rfl⟩|(simp;done)|(simp;omega)|(refine .inl ?_;simp;done)|(refine .inl ?_;simp;omega)))
 · rcases hk2 with rfl|rfl
   all_goals
    simp only [GP.B,GP.H,gQ,gA,gb,cW,List.cons_append,List.nil_append,List.length_cons,List.length_nil,List.replicate,List.map_cons,List.map_nil]
    simp -implicitDefEqProofs(disch:=first|decide|omega)only[↓aA,aC,aB,simprocAttr]
    refine lD (by decide) rfl rfl (fun y hy=>?_) ?_
    · simp only [ev,bX.get,AV.cells] at hy
      simp only [↓reduceIte,Nat.reduceEqDiff,List.mem_cons,List.not_mem_nil,or_false] at hy
      rcases hy with rfl|rfl|rfl<;>rfl
    simp -implicitDefEqProofs(disch:=first|decide|omega)only[↓aA,aC,aB,simprocAttr]
    refine lE (n:=2) (m:=1) (by decide) (by decide) (.inr ⟨2,rfl,rfl⟩) (by simp only [List.length_cons];omega) rfl rfl rfl (by decide) (by decide) (fun r'=>?_)
    simp -implicitDefEqProofs(disch:=first|decide|omega)only[↓aA,aC,aB,simprocAttr,List.take_succ_cons,List.take_zero,List.cons_append,List.nil_append,Nat.reduceMul]
    refine hQ r' _ ?_
    simp only [GP.add,uB,GP.B,GP.H,gQ,gA,List.cons_append,List.nil_append,List.length_cons,List.length_nil,List.length_append,↓reduceIte,Nat.reduceEqDiff,Nat.one_ne_zero,Nat.zero_ne_one,<- hk,List.replicate,List.map_cons,List.map_nil]
    (refine Sub.ofL [some 0,some 1,some 8,some 3,some 4,some 6] rfl (by simp) (by decide) (by simp [cQ,AO.ro,AV.ro,AV.roL,names,AO.empty,SB,U8,SI,I64,STR]<;>(try and_intros)<;>rfl) (by simp [AO.bo,AV.bo,AV.boL,names]<;>(try and_intros)<;>rfl) ?_<;>(try simp only [List.map_cons,List.map_nil,cV,AV.ro,AV.roL,AV.bo,AV.boL,names,bK,bE,Nat.reduceBEq,List.getD_cons_zero,List.getD_cons_succ,List.getD_nil,and_true,true_and,Nat.reduceLT,List.length_cons,List.length_nil,Nat.reduceAdd,decide_true,Option.isSome_some,Bool.true_or,Bool.and_self,Option.isSome_none,Bool.false_or,beq_self_eq_true,bL,bM])<;>(try and_intros)<;>(first|done|rfl|exact .inl rfl|exact .inr ⟨rfl,_,_,rfl⟩|(simp;done)|(simp;omega)|(refine .inl ?_;simp;done)|(refine .inl ?_;simp;omega)))
 · rcases hk2 with rfl|rfl
   all_goals
    simp only [GP.B,GP.H,gQ,gA,gb,cW,List.cons_append,List.nil_append,List.length_cons,List.length_nil,List.replicate,List.map_cons,List.map_nil]
    simp -implicitDefEqProofs(disch:=first|decide|omega)only[↓aA,aC,aB,simprocAttr]
    refine lD (by decide) rfl rfl (fun y hy=>?_) ?_
    · simp only [ev,bX.get,AV.cells] at hy
      simp only [↓reduceIte,Nat.reduceEqDiff,List.mem_cons,List.not_mem_nil,or_false] at hy
      rcases hy with rfl|rfl|rfl<;>rfl
    simp -implicitDefEqProofs(disch:=first|decide|omega)only[↓aA,aC,aB,simprocAttr]
    refine lE (n:=3) (m:=1) (by decide) (by decide) (.inr ⟨2,rfl,rfl⟩) (by simp only [List.length_cons];omega) rfl rfl rfl (by decide) (by decide) (fun r'=>?_)
    simp -implicitDefEqProofs(disch:=first|decide|omega)only[↓aA,aC,aB,simprocAttr,List.take_succ_cons,List.take_zero,List.cons_append,List.nil_append,Nat.reduceMul]
    refine hQ r' _ ?_
    simp only [GP.add,uB,GP.B,GP.H,gQ,gA,List.cons_append,List.nil_append,List.length_cons,List.length_nil,List.length_append,↓reduceIte,Nat.reduceEqDiff,Nat.one_ne_zero,Nat.zero_ne_one,<- hk,List.replicate,List.map_cons,List.map_nil]
    (refine Sub.ofL [some 0,some 1,some 9,some 3,some 4,some 5,some 7] rfl (by simp) (by decide) (by simp [cQ,AO.ro,AV.ro,AV.roL,names,AO.empty,SB,U8,SI,I64,STR]<;>(try and_intros)<;>rfl) (by simp [AO.bo,AV.bo,AV.boL,names]<;>(try and_intros)<;>rfl) ?_<;>(try simp only [List.map_cons,List.map_nil,cV,AV.ro,AV.roL,AV.bo,AV.boL,names,bK,bE,Nat.reduceBEq,List.getD_cons_zero,List.getD_cons_succ,List.getD_nil,and_true,true_and,Nat.reduceLT,List.length_cons,List.length_nil,Nat.reduceAdd,decide_true,Option.isSome_some,Bool.true_or,Bool.and_self,Option.isSome_none,Bool.false_or,beq_self_eq_true,bL,bM])<;>(try and_intros)<;>(first|done|rfl|exact .inl rfl|exact .inr ⟨rfl,_,_,rfl⟩|(simp;done)|(simp;omega)|(refine .inl ?_;simp;done)|(refine .inl ?_;simp;omega)))
 · rcases hk2 with rfl|rfl
   all_goals
    simp only [GP.B,GP.H,gQ,gA,gb,cW,List.cons_append,List.nil_append,List.length_cons,List.length_nil,List.replicate,List.map_cons,List.map_nil]
    simp -implicitDefEqProofs(disch:=first|decide|omega)only[↓aA,aC,aB,simprocAttr]
    refine lD (by decide) rfl rfl (fun y hy=>?_) ?_
    · simp only [ev,bX.get,AV.cells] at hy
      simp only [↓reduceIte,Nat.reduceEqDiff,List.mem_cons,List.not_mem_nil,or_false] at hy
      rcases hy with rfl|rfl|rfl<;>rfl
    simp -implicitDefEqProofs(disch:=first|decide|omega)only[↓aA,aC,aB,simprocAttr]
    refine lE (n:=4) (m:=1) (by decide) (by decide) (.inr ⟨2,rfl,rfl⟩) (by simp only [List.length_cons];omega) rfl rfl rfl (by decide) (by decide) (fun r'=>?_)
    simp -implicitDefEqProofs(disch:=first|decide|omega)only[↓aA,aC,aB,simprocAttr,List.take_succ_cons,List.take_zero,List.cons_append,List.nil_append,Nat.reduceMul]
    refine hQ r' _ ?_
    simp only [GP.add,uB,GP.B,GP.H,gQ,gA,List.cons_append,List.nil_append,List.length_cons,List.length_nil,List.length_append,↓reduceIte,Nat.reduceEqDiff,Nat.one_ne_zero,Nat.zero_ne_one,<- hk,List.replicate,List.map_cons,List.map_nil]
    (refine Sub.ofL [some 0,some 1,some 10,some 3,some 4,some 5,some 6,some 8] rfl (by simp) (by decide) (by simp [cQ,AO.ro,AV.ro,AV.roL,names,AO.empty,SB,U8,SI,I64,STR]<;>(try and_intros)<;>rfl) (by simp [AO.bo,AV.bo,AV.boL,names]<;>(try and_intros)<;>rfl) ?_<;>(try simp only [List.map_cons,List.map_nil,cV,AV.ro,AV.roL,AV.bo,AV.boL,names,bK,bE,Nat.reduceBEq,List.getD_cons_zero,List.getD_cons_succ,List.getD_nil,and_true,true_and,Nat.reduceLT,List.length_cons,List.length_nil,Nat.reduceAdd,decide_true,Option.isSome_some,Bool.true_or,Bool.and_self,Option.isSome_none,Bool.false_or,beq_self_eq_true,bL,bM])<;>(try and_intros)<;>(first|done|rfl|exact .inl rfl|exact .inr ⟨rfl,_,_,rfl⟩|(simp;done)|(simp;omega)|(refine .inl ?_;simp;done)|(refine .inl ?_;simp;omega)))
 · rcases hk2 with rfl|rfl
   all_goals
    simp only [GP.B,GP.H,gQ,gA,gb,cW,List.cons_append,List.nil_append,List.length_cons,List.length_nil,List.replicate,List.map_cons,List.map_nil]
    simp -implicitDefEqProofs(disch:=first|decide|omega)only[↓aA,aC,aB,simprocAttr]
    refine lD (by decide) rfl rfl (fun y hy=>?_) ?_
    · simp only [ev,bX.get,AV.cells] at hy
      simp only [↓reduceIte,Nat.reduceEqDiff,List.mem_cons,List.not_mem_nil,or_false] at hy
      rcases hy with rfl|rfl|rfl<;>rfl
    simp -implicitDefEqProofs(disch:=first|decide|omega)only[↓aA,aC,aB,simprocAttr]
    refine lE (n:=5) (m:=1) (by decide) (by decide) (.inr ⟨2,rfl,rfl⟩) (by simp only [List.length_cons];omega) rfl rfl rfl (by decide) (by decide) (fun r'=>?_)
    simp -implicitDefEqProofs(disch:=first|decide|omega)only[↓aA,aC,aB,simprocAttr,List.take_succ_cons,List.take_zero,List.cons_append,List.nil_append,Nat.reduceMul]
    refine hQ r' _ ?_
    simp only [GP.add,uB,GP.B,GP.H,gQ,gA,List.cons_append,List.nil_append,List.length_cons,List.length_nil,List.length_append,↓reduceIte,Nat.reduceEqDiff,Nat.one_ne_zero,Nat.zero_ne_one,<- hk,List.replicate,List.map_cons,List.map_nil]
    (refine Sub.ofL [some 0,some 1,some 11,some 3,some 4,some 5,some 6,some 7,some 9] rfl (by simp) (by decide) (by simp [cQ,AO.ro,AV.ro,AV.roL,names,AO.empty,SB,U8,SI,I64,STR]<;>(try and_intros)<;>rfl) (by simp [AO.bo,AV.bo,AV.boL,names]<;>(try and_intros)<;>rfl) ?_<;>(try simp only [List.map_cons,List.map_nil,cV,AV.ro,AV.roL,AV.bo,AV.boL,names,bK,bE,Nat.reduceBEq,List.getD_cons_zero,List.getD_cons_succ,List.getD_nil,and_true,true_and,Nat.reduceLT,List.length_cons,List.length_nil,Nat.reduceAdd,decide_true,Option.isSome_some,Bool.true_or,Bool.and_self,Option.isSome_none,Bool.false_or,beq_self_eq_true,bL,bM])<;>(try and_intros)<;>(first|done|rfl|exact .inl rfl|exact .inr ⟨rfl,_,_,rfl⟩|(simp;done)|(simp;omega)|(refine .inl ?_;simp;done)|(refine .inl ?_;simp;omega)))
 · rcases hk2 with rfl|rfl
   all_goals
    simp only [GP.B,GP.H,gQ,gA,gb,cW,List.cons_append,List.nil_append,List.length_cons,List.length_nil,List.replicate,List.map_cons,List.map_nil]
    simp -implicitDefEqProofs(disch:=first|decide|omega)only[↓aA,aC,aB,simprocAttr]
    refine lD (by decide) rfl rfl (fun y hy=>?_) ?_
    · simp only [ev,bX.get,AV.cells] at hy
      simp only [↓reduceIte,Nat.reduceEqDiff,List.mem_cons,List.not_mem_nil,or_false] at hy
      rcases hy with rfl|rfl|rfl<;>rfl
    simp -implicitDefEqProofs(disch:=first|decide|omega)only[↓aA,aC,aB,simprocAttr]
    refine lE (n:=6) (m:=1) (by decide) (by decide) (.inr ⟨2,rfl,rfl⟩) (by simp only [List.length_cons];omega) rfl rfl rfl (by decide) (by decide) (fun r'=>?_)
    simp -implicitDefEqProofs(disch:=first|decide|omega)only[↓aA,aC,aB,simprocAttr,List.take_succ_cons,List.take_zero,List.cons_append,List.nil_append,Nat.reduceMul]
    refine hQ r' _ ?_
    simp only [GP.add,uB,GP.B,GP.H,gQ,gA,List.cons_append,List.nil_append,List.length_cons,List.length_nil,List.length_append,↓reduceIte,Nat.reduceEqDiff,Nat.one_ne_zero,Nat.zero_ne_one,<- hk,List.replicate,List.map_cons,List.map_nil]
    (refine Sub.ofL [some 0,some 1,some 12,some 3,some 4,some 5,some 6,some 7,some 8,some 10] rfl (by simp) (by decide) (by simp [cQ,AO.ro,AV.ro,AV.roL,names,AO.empty,SB,U8,SI,I64,STR]<;>(try and_intros)<;>rfl) (by simp [AO.bo,AV.bo,AV.boL,names]<;>(try and_intros)<;>rfl) ?_<;>(try simp only [List.map_cons,List.map_nil,cV,AV.ro,AV.roL,AV.bo,AV.boL,names,bK,bE,Nat.reduceBEq,List.getD_cons_zero,List.getD_cons_succ,List.getD_nil,and_true,true_and,Nat.reduceLT,List.length_cons,List.length_nil,Nat.reduceAdd,decide_true,Option.isSome_some,Bool.true_or,Bool.and_self,Option.isSome_none,Bool.false_or,beq_self_eq_true,bL,bM])<;>(try and_intros)<;>(first|done|rfl|exact .inl rfl|exact .inr ⟨rfl,_,_,rfl⟩|(simp;done)|(simp;omega)|(refine .inl ?_;simp;done)|(refine .inl ?_;simp;omega)))
set_option maxHeartbeats 16000000 in
theorem aUx (g:GP) (hl:GM g.l) (hns:g.ns.length<=30) (hnl:g.labs.length=1∨g.labs.length=2) (hi:g.l.length<g.pl.length) (hpl:g.pl.length<=7) (hpp:∀ (q:Nat) (h:q<g.pl.length),g.pl[q]=g.ps q) (cs:Nat->List Cap) (Q:AE->St->Prop)
 (hQ:∀ (u:Int) (r':Nat) (H':List AO),Sub 0 ⟨[(1,.sl true 1 (g.ns.map I64)),(4,.ref 0 0 0),(6,.ref 1 0 0),(7,.sl false 1 (g.pl.map .str)),(8,.int .i64 ((g.l.length:Int)+1))],H'⟩ ⟨[(1,.sl true 1 (g.ns.map I64)),(4,.ref 0 0 0),(6,.ref 1 0 0),(7,.sl false 1 (g.pl.map .str)),(8,.int .i64 ((g.l.length:Int)+1))],(g.add r' u).B (uB cs g.l.length g.labs.length)⟩->Q .normal ⟨[(1,.sl true 1 (g.ns.map I64)),(4,.ref 0 0 0),(6,.ref 1 0 0),(7,.sl false 1 (g.pl.map .str)),(8,.int .i64 ((g.l.length:Int)+1))],H'⟩) :
 aw Tryz.prog tM Q ⟨[(1,.sl true 1 (g.ns.map I64)),(4,.ref 0 0 0),(6,.ref 1 0 0),(7,.sl false 1 (g.pl.map .str)),(8,.int .i64 (g.l.length:Int))],g.B cs⟩:=by
 unfold tM
 have hg:g.pl.getD g.l.length default=g.ps g.l.length:=by rw [<- hpp _ hi];simp [hi]
 have qt:=fun u=>aUw g hl hnl u cs
 obtain ⟨ns,labs,pl,r,ps,us,l⟩:=g
 simp only at hl hns hnl hi hpl hg qt hQ ⊢
 by_cases h1:l.length<ns.length
 · have hgn:ns.getD l.length default=ns[l.length]:=by simp [h1]
   obtain ⟨w,w1,w2,cw⟩:=tB ns[l.length] 20000 (by omega) (by omega)
   generalize ns[l.length]=v at cw hgn
   by_cases h2:v.tmod 3=0
   · cases hl
     all_goals
      simp only [GP.B,GP.H,gQ,gA,gb,cW,List.cons_append,List.nil_append,List.length_cons,List.length_nil] at h1 hgn hg hi qt hQ ⊢
      simp -implicitDefEqProofs(disch:=first|decide|omega)only[↓aA,aC,aB,simprocAttr,hg,hgn,aSs,h2,cA,bU,List.append_nil]
      repeat (refine And.intro (by omega) ?_)
      refine aE (aI.of (aM:=false) (cw) (.refl rfl) rfl (by simp)) ?_
      simp -implicitDefEqProofs(disch:=first|decide|omega)only[↓aA,aC,aB,simprocAttr,hg,hgn,cA,bU,List.append_nil]
      repeat (refine And.intro (by omega) ?_)
      refine qt (1+w) _ fun r' H' hs=>?_
      simp -implicitDefEqProofs(disch:=first|decide|omega)only[↓aA,aC,aB,simprocAttr]
      exact hQ _ r' H' hs
   · cases hl
     all_goals
      simp only [GP.B,GP.H,gQ,gA,gb,cW,List.cons_append,List.nil_append,List.length_cons,List.length_nil] at h1 hgn hg hi qt hQ ⊢
      simp -implicitDefEqProofs(disch:=first|decide|omega)only[↓aA,aC,aB,simprocAttr,hg,hgn,aSs,h2,cA,bU,List.append_nil]
      repeat (refine And.intro (by omega) ?_)
      refine qt 1000000 _ fun r' H' hs=>?_
      simp -implicitDefEqProofs(disch:=first|decide|omega)only[↓aA,aC,aB,simprocAttr]
      exact hQ _ r' H' hs
 · cases hl
   all_goals
    simp only [GP.B,GP.H,gQ,gA,gb,cW,List.cons_append,List.nil_append,List.length_cons,List.length_nil] at h1 hg hi qt hQ ⊢
    simp -implicitDefEqProofs(disch:=first|decide|omega)only[↓aA,aC,aB,simprocAttr,hg,cA,bU,List.append_nil]
    repeat (refine And.intro (by omega) ?_)
    refine qt 1000000 _ fun r' H' hs=>?_
    simp -implicitDefEqProofs(disch:=first|decide|omega)only[↓aA,aC,aB,simprocAttr]
    exact hQ _ r' H' hs
def ixs:Nat->List Nat
 | 0=>[]
 | n+1=>ixs n++[n]
theorem aBL:∀ n,(ixs n).length=n
 | 0=>rfl
 | n+1=>by simp [ixs,aBL n]
theorem aRv {n:Nat} (h:n<=6):GM (ixs n):=by
 rcases (by omega:n=0∨n=1∨n=2∨n=3∨n=4∨n=5∨n=6) with rfl|rfl|rfl|rfl|rfl|rfl|rfl<;>constructor
def GP.at (g:GP) (r:Nat) (us:Nat->Int) (i:Nat):GP:={ g with r:=r,us:=us,l:=ixs i }
set_option maxHeartbeats 16000000 in
theorem aUy (g:GP) (hns:g.ns.length<=30) (hnl:g.labs.length=1∨g.labs.length=2) (hpl:g.pl.length<=7) (hpp:∀ (q:Nat) (h:q<g.pl.length),g.pl[q]=g.ps q) (Q:AE->St->Prop)
 (hQ:∀ (r:Nat) (us:Nat->Int) (cs:Nat->List Cap),(∀ q,(cs q).length=g.labs.length)->Q (.exit 0) ⟨[(1,.sl true 1 (g.ns.map I64)),(4,.ref 0 0 0),(6,.ref 1 0 0),(7,.sl false 1 (g.pl.map .str)),(8,.int .i64 (g.pl.length:Int)),(40,.bool false)],(g.at r us g.pl.length).B cs⟩) (s0:St)
 (hs0:Sub 0 (dM (some [1,4,6,7,8]) s0) ⟨[(1,.sl true 1 (g.ns.map I64)),(4,.ref 0 0 0),(6,.ref 1 0 0),(7,.sl false 1 (g.pl.map .str)),(8,.int .i64 (((0:Nat):Int)))],[.box [.aD,.aD],.box [.sl false 1 (g.labs.map .str),.aD]]⟩) :
 aw Tryz.prog (.loop 0 (some [1,4,6,7,8]) tM) Q s0:=by
 refine aF (σ:=Nat×Nat×(Nat->Int)×(Nat->List Cap)) (fun q=>⟨[(1,.sl true 1 (g.ns.map I64)),(4,.ref 0 0 0),(6,.ref 1 0 0),(7,.sl false 1 (g.pl.map .str)),(8,.int .i64 (q.1:Int))],(g.at q.2.1 q.2.2.1 q.1).B q.2.2.2⟩) (fun q=>q.1<=g.pl.length/\∀ w,(q.2.2.2 w).length=g.labs.length) (fun q=>g.pl.length-q.1) (0,0,g.us,fun _=>List.replicate g.labs.length W0) hs0 ⟨by simp,fun w=>by simp⟩ ?_
 rintro ⟨i,r,us,cs⟩ ⟨hi,hcs⟩
 clear hs0
 simp only at hi hcs ⊢
 by_cases hin:i<g.pl.length
 · have hx:=aBL i
   have qs:=aUx (g.at r us i) (aRv (by omega)) hns hnl (by show (ixs i).length<_;rw [hx];exact hin) hpl hpp cs
   unfold GP.add at qs
   simp only [GP.at,hx] at qs ⊢
   refine qs _ fun u r' H' hs=>?_
   exact ⟨(i+1,r',(fun q=>if q=i then u else us q),uB cs i g.labs.length),hs,⟨by simp only;omega,fun w=>by
    simp only [uB]
    split
    · simp
    · exact hcs w⟩,by simp only;omega⟩
 · have:i=g.pl.length:=by omega
   subst this
   unfold tM
   simp -implicitDefEqProofs(disch:=first|decide|omega)only[↓aA,aC,aB,simprocAttr]
   exact hQ r us cs hcs
def aJv:CC:=(.seq (.seq (.reg [⟨(some 47),(.mv (.tmp 7)),none⟩,⟨(some 48),(.fad 1 (.tmp 6)),none⟩,⟨(some 49),(.ld 1 false (.tmp 48)),none⟩,⟨(some 50),(.lenl (.tmp 49)),none⟩,⟨(some 51),(.bin .lss (.tmp 47) (.tmp 50)),none⟩] false [] (some [1,3,5,6,7,51])) (.cond (.tmp 51) .skip (.exit 4))) (.seq (.block (some [1,3,5,6,7]) 5 (.sch (.fin [⟨(some 54),(.mv (.tmp 3)),none⟩,⟨(some 55),(.bin .add (.tmp 54) (.const (.string ⟨#[32]⟩))),none⟩,⟨(some 56),(.fad 1 (.tmp 6)),none⟩,⟨(some 58),(.mv (.tmp 7)),none⟩,⟨(some 65),(.fad 1 (.tmp 6)),none⟩,⟨(some 67),(.mv (.tmp 7)),none⟩,⟨(some 57),(.ld 1 false (.tmp 56)),none⟩,⟨(some 59),(.iad 2 (.tmp 57) (.tmp 58)),none⟩,⟨(some 60),(.fad 0 (.tmp 59)),none⟩,⟨(some 61),(.ld 1 false (.tmp 60)),none⟩,⟨(some 66),(.ld 1 false (.tmp 65)),none⟩,⟨(some 68),(.iad 2 (.tmp 66) (.tmp 67)),none⟩,⟨(some 69),(.fad 1 (.tmp 68)),none⟩,⟨(some 70),(.ld 1 false (.tmp 69)),none⟩,⟨(some 62),(.calf 108 [(.tmp 61)]),none⟩,⟨(some 63),(.bin .add (.tmp 55) (.tmp 62)),none⟩,⟨(some 64),(.bin .add (.tmp 63) (.const (.string ⟨#[47]⟩))),none⟩,⟨(some 71),(.calf 108 [(.tmp 70)]),none⟩,⟨(some 72),(.bin .add (.tmp 64) (.tmp 71)),none⟩,⟨(some 3),(.mv (.tmp 72)),none⟩]) [54,55,56,58,65,67,59,60,68,69,63,64,72] [] (some [1,3,5,6,7]))) (.reg [⟨(some 52),(.mv (.tmp 7)),none⟩,⟨(some 53),(.bin .add (.tmp 52) (.const (.int .i64 1))),none⟩,⟨(some 7),(.mv (.tmp 53)),none⟩] false [] (some [1,3,5,6,7]))))
def aJy:CC:=(.block (some [1,3,5]) 4 (.loop 0 (some [1,3,5,6,7]) aJv))
def aJu:CC:=(.seq (.seq (.reg [⟨(some 25),(.mv (.tmp 5)),none⟩,⟨(some 26),(.fad 1 (.tmp 1)),none⟩,⟨(some 27),(.ld 1 false (.tmp 26)),none⟩,⟨(some 28),(.lenl (.tmp 27)),none⟩,⟨(some 29),(.bin .lss (.tmp 25) (.tmp 28)),none⟩] false [] (some [1,3,5,29])) (.cond (.tmp 29) .skip (.exit 2))) (.seq (.block (some [1,3,5]) 3 (.seq (.reg [⟨(some 32),(.fad 1 (.tmp 1)),none⟩,⟨(some 33),(.ld 1 false (.tmp 32)),none⟩,⟨(some 34),(.mv (.tmp 5)),none⟩,⟨(some 35),(.iad 3 (.tmp 33) (.tmp 34)),none⟩,⟨(some 36),(.ld 3 true (.tmp 35)),none⟩,⟨(some 6),(.al [(.str []),.aD,(.int .i64 0)]),none⟩,⟨none,(.st 3 (.tmp 6) (.tmp 36)),none⟩] false [] (some [1,3,5,6])) (.seq (.sch (.fin [⟨(some 37),(.mv (.tmp 3)),none⟩,⟨(some 38),(.bin .add (.tmp 37) (.const (.string ⟨#[113,117,101,117,101,32]⟩))),none⟩,⟨(some 39),(.fad 0 (.tmp 6)),none⟩,⟨(some 43),(.fad 2 (.tmp 6)),none⟩,⟨(some 40),(.ld 1 false (.tmp 39)),none⟩,⟨(some 41),(.bin .add (.tmp 38) (.tmp 40)),none⟩,⟨(some 42),(.bin .add (.tmp 41) (.const (.string ⟨#[32]⟩))),none⟩,⟨(some 44),(.ld 1 false (.tmp 43)),none⟩,⟨(some 45),(.calf 108 [(.tmp 44)]),none⟩,⟨(some 46),(.bin .add (.tmp 42) (.tmp 45)),none⟩,⟨(some 3),(.mv (.tmp 46)),none⟩]) [37,38,39,43,41,42,46] [] (some [1,3,5,6])) (.seq (.seq (.reg [⟨(some 7),(.mv (.const (.int .i64 0))),none⟩] false [] (some [1,3,5,6,7])) aJy) (.reg [⟨(some 73),(.mv (.tmp 3)),none⟩,⟨(some 74),(.bin .add (.tmp 73) (.const (.string ⟨#[10]⟩))),none⟩,⟨(some 3),(.mv (.tmp 74)),none⟩] false [] (some [1,3,5])))))) (.reg [⟨(some 30),(.mv (.tmp 5)),none⟩,⟨(some 31),(.bin .add (.tmp 30) (.const (.int .i64 1))),none⟩,⟨(some 5),(.mv (.tmp 31)),none⟩] false [] (some [1,3,5]))))
def aJx:CC:=(.block (some [3]) 2 (.loop 0 (some [1,3,5]) aJu))
def aJt:CC:=(.seq (.seq (.reg [⟨(some 8),(.mv (.tmp 4)),none⟩,⟨(some 9),(.fad 0 (.tmp 1)),none⟩,⟨(some 10),(.ld 1 false (.tmp 9)),none⟩,⟨(some 11),(.lenl (.tmp 10)),none⟩,⟨(some 12),(.bin .lss (.tmp 8) (.tmp 11)),none⟩] false [] (some [1,3,4,12])) (.cond (.tmp 12) .skip (.exit 0))) (.seq (.block (some [1,3,4]) 1 (.reg [⟨(some 15),(.mv (.tmp 3)),none⟩,⟨(some 16),(.bin .add (.tmp 15) (.const (.string ⟨#[32]⟩))),none⟩,⟨(some 17),(.fad 0 (.tmp 1)),none⟩,⟨(some 18),(.ld 1 false (.tmp 17)),none⟩,⟨(some 19),(.mv (.tmp 4)),none⟩,⟨(some 20),(.iad 1 (.tmp 18) (.tmp 19)),none⟩,⟨(some 21),(.ld 1 false (.tmp 20)),none⟩,⟨(some 22),(.bin .add (.tmp 16) (.tmp 21)),none⟩,⟨(some 3),(.mv (.tmp 22)),none⟩] false [] (some [1,3,4]))) (.reg [⟨(some 13),(.mv (.tmp 4)),none⟩,⟨(some 14),(.bin .add (.tmp 13) (.const (.int .i64 1))),none⟩,⟨(some 4),(.mv (.tmp 14)),none⟩] false [] (some [1,3,4]))))
def aJw:CC:=(.block (some [1,3]) 0 (.loop 0 (some [1,3,4]) aJt))
def aXy:CC:=(.seq (.reg [⟨(some 1),(.bx (.tmp 0)),none⟩,⟨(some 2),(.mv (.const (.string ⟨#[]⟩))),none⟩] false [] (some [1])) (.seq (.reg [⟨(some 3),(.mv (.const (.string ⟨#[108,97,98,101,108,115]⟩))),none⟩] false [] (some [1,3])) (.seq (.seq (.reg [⟨(some 4),(.mv (.const (.int .i64 1))),none⟩] false [] (some [1,3,4])) aJw) (.seq (.reg [⟨(some 23),(.mv (.tmp 3)),none⟩,⟨(some 24),(.bin .add (.tmp 23) (.const (.string ⟨#[10]⟩))),none⟩,⟨(some 3),(.mv (.tmp 24)),none⟩] false [] (some [1,3])) (.seq (.seq (.reg [⟨(some 5),(.mv (.const (.int .i64 0))),none⟩] false [] (some [1,3,5])) aJx) (.seq (.reg [⟨(some 75),(.mv (.tmp 3)),none⟩,⟨(some 2),(.mv (.tmp 75)),none⟩] false [2] (some [2])) .ret))))))
theorem aYV:aZ Tryz.prog 56 aXy [2] 76:=aZ.mk (by kernel_rfl) ⟨Tryz.f56,_,Tryz.func56,rfl,by kernel_rfl,by kernel_rfl,by kernel_rfl,by kernel_rfl,by kernel_rfl⟩
def a1G:{c:CC // aJ Tryz.prog 108=c}:=⟨_,by conv=>lhs;reduce⟩
def aZY:{c:CC // bA Tryz.prog 108 {} a1G.1 []=c}:=⟨_,by conv=>lhs;reduce⟩
def aEn:CC:=(fun (c:CC) (_:(aZY.1)=c)=>c) _ (by conv=>lhs;reduce)
theorem aIj:aZ Tryz.prog 108 aEn [2] 25:=aZ.mk (by kernel_rfl) ⟨Tryz.f108,_,Tryz.func108,rfl,by kernel_rfl,by kernel_rfl,by kernel_rfl,by kernel_rfl,by kernel_rfl⟩
end Go.Proofs.YtakemdamegfcfaaGreat
