/- A part of a proof: what functions of the program compute. No condition. -/
import Derived.Test.YtakemdamegfcfaaGreatT29
set_option linter.unusedSimpArgs false
set_option linter.unusedVariables false
set_option maxRecDepth 20000
namespace Go.Proofs.YtakemdamegfcfaaGreat
open Go Go.Ab
def W0:Cap:=⟨10000,10000⟩
def cW (p:List UInt8) (u:Int) (b:Nat):Nat->List AO
 | 0=>[.box [.str p,.aD,.int .i64 u]]
 | k+1=>[.box [.str p,.own (b+1) 2 0 (k+1),.int .i64 u],.arr 2 ((List.replicate (k+1) W0).map CAP)]
def GP.B (g:GP) (cs:Nat->List Cap):List AO:=match g.l with
 | []=>[.box [.aD,.aD],.box [.sl false 1 (g.labs.map .str),.aD]]
 | _ :: _=>g.H cs []
def gb:List Nat->Nat
 | []=>2
 | l=>l.length+3
inductive GM:List Nat->Prop
 | m0:GM []
 | m1:GM [0]
 | m2:GM [0,1]
 | m3:GM [0,1,2]
 | m4:GM [0,1,2,3]
 | m5:GM [0,1,2,3,4]
 | m6:GM [0,1,2,3,4,5]
set_option maxHeartbeats 16000000 in
theorem aW9 (g:GP) (hl:GM g.l) (hnl:g.labs.length=1∨g.labs.length=2) (x8 u:Int) (p:List UInt8) (cs:Nat->List Cap) (Q:AE->St->Prop)
 (hQ:∀ k:Nat,k=g.labs.length->Q (.exit 2) ⟨[(1,.sl true 1 (g.ns.map I64)),(4,.ref 0 0 0),(6,.ref 1 0 0),(7,.sl false 1 (g.pl.map .str)),(8,.int .i64 x8),(9,.ref (gb g.l) 0 0),(10,.int .i64 (k:Int)),(71,.bool false)],g.B cs++cW p u (gb g.l) k⟩) (s0:St) (hs0:Sub 0 (dM (some [1,4,6,7,8,9,10]) s0) ⟨[(1,.sl true 1 (g.ns.map I64)),(4,.ref 0 0 0),(6,.ref 1 0 0),(7,.sl false 1 (g.pl.map .str)),(8,.int .i64 x8),(9,.ref (gb g.l) 0 0),(10,.int .i64 (((0:Nat):Int)))],g.B cs++cW p u (gb g.l) 0⟩) :
 aw Tryz.prog (.loop 0 (some [1,4,6,7,8,9,10]) aAT) Q s0:=by
 refine aF (σ:=Nat) (fun k=>⟨[(1,.sl true 1 (g.ns.map I64)),(4,.ref 0 0 0),(6,.ref 1 0 0),(7,.sl false 1 (g.pl.map .str)),(8,.int .i64 x8),(9,.ref (gb g.l) 0 0),(10,.int .i64 (k:Int))],g.B cs++cW p u (gb g.l) k⟩) (fun k=>k<=g.labs.length) (fun k=>g.labs.length-k) 0 hs0 (by omega) ?_
 intro k hk
 clear hs0
 unfold aAT
 have hk2:k=0∨k=1∨k=2:=by omega
 obtain ⟨ns,labs,pl,r,ps,us,l⟩:=g
 simp only at hl hnl hQ hk ⊢
 cases hl
 · rcases hk2 with rfl|rfl|rfl
   · simp only [GP.B,GP.H,gQ,gA,gb,cW,List.cons_append,List.nil_append,List.length_cons,List.length_nil,List.replicate,List.map_cons,List.map_nil] at hQ ⊢
     refine Yq ?_
     refine ⟨1,?_,by omega,by omega⟩
     simp only [GP.B,GP.H,gQ,gA,gb,cW,List.cons_append,List.nil_append,List.length_cons,List.length_nil,List.replicate,List.map_cons,List.map_nil]
     (refine Sub.ofL [some 0,some 1,some 2,some 4] rfl (by simp) (by decide) (by simp [cQ,AO.ro,AV.ro,AV.roL,names,AO.empty,SB,U8,SI,I64,STR]<;>(try and_intros)<;>rfl) (by simp [AO.bo,AV.bo,AV.boL,names]<;>(try and_intros)<;>rfl) ?_<;>(try simp only [List.map_cons,List.map_nil,cV,AV.ro,AV.roL,AV.bo,AV.boL,names,bK,bE,Nat.reduceBEq,List.getD_cons_zero,List.getD_cons_succ,List.getD_nil,and_true,true_and,Nat.reduceLT,List.length_cons,List.length_nil,Nat.reduceAdd,decide_true,Option.isSome_some,Bool.true_or,Bool.and_self,Option.isSome_none,Bool.false_or,beq_self_eq_true,bL,bM])<;>(try and_intros)<;>(first|done|rfl|exact .inl rfl|exact .inr ⟨rfl,_,_,rfl⟩|(simp;done)|(simp;omega)|(refine .inl ?_;simp;done)|(refine .inl ?_;simp;omega)))
   · by_cases h1:1<labs.length
     · simp only [GP.B,GP.H,gQ,gA,gb,cW,List.cons_append,List.nil_append,List.length_cons,List.length_nil,List.replicate,List.map_cons,List.map_nil] at hQ ⊢
       refine Yq ?_
       refine ⟨2,?_,by omega,by omega⟩
       simp only [GP.B,GP.H,gQ,gA,gb,cW,List.cons_append,List.nil_append,List.length_cons,List.length_nil,List.replicate,List.map_cons,List.map_nil]
       (refine Sub.ofL [some 0,some 1,some 2,some 5] rfl (by simp) (by decide) (by simp [cQ,AO.ro,AV.ro,AV.roL,names,AO.empty,SB,U8,SI,I64,STR]<;>(try and_intros)<;>rfl) (by simp [AO.bo,AV.bo,AV.boL,names]<;>(try and_intros)<;>rfl) ?_<;>(try simp only [List.map_cons,List.map_nil,cV,AV.ro,AV.roL,AV.bo,AV.boL,names,bK,bE,Nat.reduceBEq,List.getD_cons_zero,List.getD_cons_succ,List.getD_nil,and_true,true_and,Nat.reduceLT,List.length_cons,List.length_nil,Nat.reduceAdd,decide_true,Option.isSome_some,Bool.true_or,Bool.and_self,Option.isSome_none,Bool.false_or,beq_self_eq_true,bL,bM])<;>(try and_intros)<;>(first|done|rfl|exact .inl rfl|exact .inr ⟨rfl,_,_,rfl⟩|(simp;done)|(simp;omega)|(refine .inl ?_;simp;done)|(refine .inl ?_;simp;omega)))
     · have e:=hQ 1 (by omega)
       simp only [GP.B,GP.H,gQ,gA,gb,cW,List.cons_append,List.nil_append,List.length_cons,List.length_nil,List.replicate,List.map_cons,List.map_nil] at e ⊢
       refine Ya ?_
       exact e
   · have e:=hQ 2 (by omega)
     simp only [GP.B,GP.H,gQ,gA,gb,cW,List.cons_append,List.nil_append,List.length_cons,List.length_nil,List.replicate,List.map_cons,List.map_nil] at e ⊢
     refine Ya ?_
     exact e
 · rcases hk2 with rfl|rfl|rfl
   · simp only [GP.B,GP.H,gQ,gA,gb,cW,List.cons_append,List.nil_append,List.length_cons,List.length_nil,List.replicate,List.map_cons,List.map_nil] at hQ ⊢
     refine Yq ?_
     refine ⟨1,?_,by omega,by omega⟩
     simp only [GP.B,GP.H,gQ,gA,gb,cW,List.cons_append,List.nil_append,List.length_cons,List.length_nil,List.replicate,List.map_cons,List.map_nil]
     (refine Sub.ofL [some 0,some 1,some 2,some 3,some 4,some 6] rfl (by simp) (by decide) (by simp [cQ,AO.ro,AV.ro,AV.roL,names,AO.empty,SB,U8,SI,I64,STR]<;>(try and_intros)<;>rfl) (by simp [AO.bo,AV.bo,AV.boL,names]<;>(try and_intros)<;>rfl) ?_<;>(try simp only [List.map_cons,List.map_nil,cV,AV.ro,AV.roL,AV.bo,AV.boL,names,bK,bE,Nat.reduceBEq,List.getD_cons_zero,List.getD_cons_succ,List.getD_nil,and_true,true_and,Nat.reduceLT,List.length_cons,List.length_nil,Nat.reduceAdd,decide_true,Option.isSome_some,Bool.true_or,Bool.and_self,Option.isSome_none,Bool.false_or,beq_self_eq_true,bL,bM])<;>(try and_intros)<;>(first|done|rfl|exact .inl rfl|exact .inr ⟨rfl,_,_,rfl⟩|(simp;done)|(simp;omega)|(refine .inl ?_;simp;done)|(refine .inl ?_;simp;omega)))
   · by_cases h1:1<labs.length
     · simp only [GP.B,GP.H,gQ,gA,gb,cW,List.cons_append,List.nil_append,List.length_cons,List.length_nil,List.replicate,List.map_cons,List.map_nil] at hQ ⊢
       refine Yq ?_
       refine ⟨2,?_,by omega,by omega⟩
       simp only [GP.B,GP.H,gQ,gA,gb,cW,List.cons_append,List.nil_append,List.length_cons,List.length_nil,List.replicate,List.map_cons,List.map_nil]
       (refine Sub.ofL [some 0,some 1,some 2,some 3,some 4,some 7] rfl (by simp) (by decide) (by simp [cQ,AO.ro,AV.ro,AV.roL,names,AO.empty,SB,U8,SI,I64,STR]<;>(try and_intros)<;>rfl) (by simp [AO.bo,AV.bo,AV.boL,names]<;>(try and_intros)<;>rfl) ?_<;>(try simp only [List.map_cons,List.map_nil,cV,AV.ro,AV.roL,AV.bo,AV.boL,names,bK,bE,Nat.reduceBEq,List.getD_cons_zero,List.getD_cons_succ,List.getD_nil,and_true,true_and,Nat.reduceLT,List.length_cons,List.length_nil,Nat.reduceAdd,decide_true,Option.isSome_some,Bool.true_or,Bool.and_self,Option.isSome_none,Bool.false_or,beq_self_eq_true,bL,bM])<;>(try and_intros)<;>(first|done|rfl|exact .inl rfl|exact .inr ⟨rfl,_,_,rfl⟩|(simp;done)|(simp;omega)|(refine .inl ?_;simp;done)|(refine .inl ?_;simp;omega)))
     · have e:=hQ 1 (by omega)
       simp only [GP.B,GP.H,gQ,gA,gb,cW,List.cons_append,List.nil_append,List.length_cons,List.length_nil,List.replicate,List.map_cons,List.map_nil] at e ⊢
       refine Ya ?_
       exact e
   · have e:=hQ 2 (by omega)
     simp only [GP.B,GP.H,gQ,gA,gb,cW,List.cons_append,List.nil_append,List.length_cons,List.length_nil,List.replicate,List.map_cons,List.map_nil] at e ⊢
     refine Ya ?_
     exact e
 · rcases hk2 with rfl|rfl|rfl
   · simp only [GP.B,GP.H,gQ,gA,gb,cW,List.cons_append,List.nil_append,List.length_cons,List.length_nil,List.replicate,List.map_cons,List.map_nil] at hQ ⊢
     refine Yq ?_
     refine ⟨1,?_,by omega,by omega⟩
     simp only [GP.B,GP.H,gQ,gA,gb,cW,List.cons_append,List.nil_append,List.length_cons,List.length_nil,List.replicate,List.map_cons,List.map_nil]
     (refine Sub.ofL [some 0,some 1,some 2,some 3,some 4,some 5,some 7] rfl (by simp) (by decide) (by simp [cQ,AO.ro,AV.ro,AV.roL,names,AO.empty,SB,U8,SI,I64,STR]<;>(try and_intros)<;>rfl) (by simp [AO.bo,AV.bo,AV.boL,names]<;>(try and_intros)<;>rfl) ?_<;>(try simp only [List.map_cons,List.map_nil,cV,AV.ro,AV.roL,AV.bo,AV.boL,names,bK,bE,Nat.reduceBEq,List.getD_cons_zero,List.getD_cons_succ,List.getD_nil,and_true,true_and,Nat.reduceLT,List.length_cons,List.length_nil,Nat.reduceAdd,decide_true,Option.isSome_some,Bool.true_or,Bool.and_self,Option.isSome_none,Bool.false_or,beq_self_eq_true,bL,bM])<;>(try and_intros)<;>(first|done|rfl|exact .inl rfl|exact .inr ⟨rfl,_,_,rfl⟩|(simp;done)|(simp;omega)|(refine .inl ?_;simp;done)|(refine .inl ?_;simp;omega)))
   · by_cases h1:1<labs.length
     · simp only [GP.B,GP.H,gQ,gA,gb,cW,List.cons_append,List.nil_append,List.length_cons,List.length_nil,List.replicate,List.map_cons,List.map_nil] at hQ ⊢
       refine Yq ?_
       refine ⟨2,?_,by omega,by omega⟩
       simp only [GP.B,GP.H,gQ,gA,gb,cW,List.cons_append,List.nil_append,List.length_cons,List.length_nil,List.replicate,List.map_cons,List.map_nil]
       (refine Sub.ofL [some 0,some 1,some 2,some 3,some 4,some 5,some 8] rfl (by simp) (by decide) (by simp [cQ,AO.ro,AV.ro,AV.roL,names,AO.empty,SB,U8,SI,I64,STR]<;>(try and_intros)<;>rfl) (by simp [AO.bo,AV.bo,AV.boL,names]<;>(try and_intros)<;>rfl) ?_<;>(try simp only [List.map_cons,List.map_nil,cV,AV.ro,AV.roL,AV.bo,AV.boL,names,bK,bE,Nat.reduceBEq,List.getD_cons_zero,List.getD_cons_succ,List.getD_nil,and_true,true_and,Nat.reduceLT,List.length_cons,List.length_nil,Nat.reduceAdd,decide_true,Option.isSome_some,Bool.true_or,Bool.and_self,Option.isSome_none,Bool.false_or,beq_self_eq_true,bL,bM])<;>(try and_intros)<;>(first|done|rfl|exact .inl rfl|exact .inr ⟨rfl,_,_,rfl⟩|(simp;done)|(simp;omega)|(refine .inl ?_;simp;done)|(refine .inl ?_;simp;omega)))
     · have e:=hQ 1 (by omega)
       simp only [GP.B,GP.H,gQ,gA,gb,cW,List.cons_append,List.nil_append,List.length_cons,List.length_nil,List.replicate,List.map_cons,List.map_nil] at e ⊢
       refine Ya ?_
       exact e
   · have e:=hQ 2 (by omega)
     simp only [GP.B,GP.H,gQ,gA,gb,cW,List.cons_append,List.nil_append,List.length_cons,List.length_nil,List.replicate,List.map_cons,List.map_nil] at e ⊢
     refine Ya ?_
     exact e
 · rcases hk2 with rfl|rfl|rfl
   · simp only [GP.B,GP.H,gQ,gA,gb,cW,List.cons_append,List.nil_append,List.length_cons,List.length_nil,List.replicate,List.map_cons,List.map_nil] at hQ ⊢
     refine Yq ?_
     refine ⟨1,?_,by omega,by omega⟩
     simp only [GP.B,GP.H,gQ,gA,gb,cW,List.cons_append,List.nil_append,List.length_cons,List.length_nil,List.replicate,List.map_cons,List.map_nil]
     (refine Sub.ofL [some 0,some 1,some 2,some 3,some 4,some 5,some 6,some 8] rfl (by simp) (by decide) (by simp [cQ,AO.ro,AV.ro,AV.roL,names,AO.empty,SB,U8,SI,I64,STR]<;>(try and_intros)<;>rfl) (by simp [AO.bo,AV.bo,AV.boL,names]<;>(try and_intros)<;>rfl) ?_<;>(try simp only [List.map_cons,List.map_nil,cV,AV.ro,AV.roL,AV.bo,AV.boL,names,bK,bE,Nat.reduceBEq,List.getD_cons_zero,List.getD_cons_succ,List.getD_nil,and_true,true_and,Nat.reduceLT,List.length_cons,List.length_nil,Nat.reduceAdd,decide_true,Option.isSome_some,Bool.true_or,Bool.and_self,Option.isSome_none,Bool.false_or,beq_self_eq_true,bL,bM])<;>(try and_intros)<;>(first|done|rfl|exact .inl rfl|exact .inr ⟨rfl,_,_,rfl⟩|(simp;done)|(simp;omega)|(refine .inl ?_;simp;done)|(refine .inl ?_;simp;omega)))
   · by_cases h1:1<labs.length
     · simp only [GP.B,GP.H,gQ,gA,gb,cW,List.cons_append,List.nil_append,List.length_cons,List.length_nil,List.replicate,List.map_cons,List.map_nil] at hQ ⊢
       refine Yq ?_
       refine ⟨2,?_,by omega,by omega⟩
       simp only [GP.B,GP.H,gQ,gA,gb,cW,List.cons_append,List.nil_append,List.length_cons,List.length_nil,List.replicate,List.map_cons,List.map_nil]
       (refine Sub.ofL [some 0,some 1,some 2,some 3,some 4,some 5,some 6,some 9] rfl (by simp) (by decide) (by simp [cQ,AO.ro,AV.ro,AV.roL,names,AO.empty,SB,U8,SI,I64,STR]<;>(try and_intros)<;>rfl) (by simp [AO.bo,AV.bo,AV.boL,names]<;>(try and_intros)<;>rfl) ?_<;>(try simp only [List.map_cons,List.map_nil,cV,AV.ro,AV.roL,AV.bo,AV.boL,names,bK,bE,Nat.reduceBEq,List.getD_cons_zero,List.getD_cons_succ,List.getD_nil,and_true,true_and,Nat.reduceLT,List.length_cons,List.length_nil,Nat.reduceAdd,decide_true,Option.isSome_some,Bool.true_or,Bool.and_self,Option.isSome_none,Bool.false_or,beq_self_eq_true,bL,bM])<;>(try and_intros)<;>(first|done|rfl|exact .inl rfl|exact .inr ⟨rfl,_,_,rfl⟩|(simp;done)|(simp;omega)|(refine .inl ?_;simp;done)|(refine .inl ?_;simp;omega)))
     · have e:=hQ 1 (by omega)
       simp only [GP.B,GP.H,gQ,gA,gb,cW,List.cons_append,List.nil_append,List.length_cons,List.length_nil,List.replicate,List.map_cons,List.map_nil] at e ⊢
       refine Ya ?_
       exact e
   · have e:=hQ 2 (by omega)
     simp only [GP.B,GP.H,gQ,gA,gb,cW,List.cons_append,List.nil_append,List.length_cons,List.length_nil,List.replicate,List.map_cons,List.map_nil] at e ⊢
     refine Ya ?_
     exact e
 · rcases hk2 with rfl|rfl|rfl
   · simp only [GP.B,GP.H,gQ,gA,gb,cW,List.cons_append,List.nil_append,List.length_cons,List.length_nil,List.replicate,List.map_cons,List.map_nil] at hQ ⊢
     refine Yq ?_
     refine ⟨1,?_,by omega,by omega⟩
     simp only [GP.B,GP.H,gQ,gA,gb,cW,List.cons_append,List.nil_append,List.length_cons,List.length_nil,List.replicate,List.map_cons,List.map_nil]
     (refine Sub.ofL [some 0,some 1,some 2,some 3,some 4,some 5,some 6,some 7,some 9] rfl (by simp) (by decide) (by simp [cQ,AO.ro,AV.ro,AV.roL,names,AO.empty,SB,U8,SI,I64,STR]<;>(try and_intros)<;>rfl) (by simp [AO.bo,AV.bo,AV.boL,names]<;>(try and_intros)<;>rfl) ?_<;>(try simp only [List.map_cons,List.map_nil,cV,AV.ro,AV.roL,AV.bo,AV.boL,names,bK,bE,Nat.reduceBEq,List.getD_cons_zero,List.getD_cons_succ,List.getD_nil,and_true,true_and,Nat.reduceLT,List.length_cons,List.length_nil,Nat.reduceAdd,decide_true,Option.isSome_some,Bool.true_or,Bool.and_self,Option.isSome_none,Bool.false_or,beq_self_eq_true,bL,bM])<;>(try and_intros)<;>(first|done|rfl|exact .inl rfl|exact .inr ⟨rfl,_,_,rfl⟩|(simp;done)|(simp;omega)|(refine .inl ?_;simp;done)|(refine .inl ?_;simp;omega)))
   · by_cases h1:1<labs.length
     · simp only [GP.B,GP.H,gQ,gA,gb,cW,List.cons_append,List.nil_append,List.length_cons,List.length_nil,List.replicate,List.map_cons,List.map_nil] at hQ ⊢
       refine Yq ?_
       refine ⟨2,?_,by omega,by omega⟩
       simp only [GP.B,GP.H,gQ,gA,gb,cW,List.cons_append,List.nil_append,List.length_cons,List.length_nil,List.replicate,List.map_cons,List.map_nil]
       (refine Sub.ofL [some 0,some 1,some 2,some 3,some 4,some 5,some 6,some 7,some 10] rfl (by simp) (by decide) (by simp [cQ,AO.ro,AV.ro,AV.roL,names,AO.empty,SB,U8,SI,I64,STR]<;>(try and_intros)<;>rfl) (by simp [AO.bo,AV.bo,AV.boL,names]<;>(try and_intros)<;>rfl) ?_<;>(try simp only [List.map_cons,List.map_nil,cV,AV.ro,AV.roL,AV.bo,AV.boL,names,bK,bE,Nat.reduceBEq,List.getD_cons_zero,List.getD_cons_succ,List.getD_nil,and_true,true_and,Nat.reduceLT,List.length_cons,List.length_nil,Nat.reduceAdd,decide_true,Option.isSome_some,Bool.true_or,Bool.and_self,Option.isSome_none,Bool.false_or,beq_self_eq_true,bL,bM])<;>(try and_intros)<;>(first|done|rfl|exact .inl rfl|exact .inr ⟨rfl,_,_,rfl⟩|(simp;done)|(simp;omega)|(refine .inl ?_;simp;done)|(refine .inl ?_;simp;omega)))
     · have e:=hQ 1 (by omega)
       simp only [GP.B,GP.H,gQ,gA,gb,cW,List.cons_append,List.nil_append,List.length_cons,List.length_nil,List.replicate,List.map_cons,List.map_nil] at e ⊢
       refine Ya ?_
       exact e
   · have e:=hQ 2 (by omega)
     simp only [GP.B,GP.H,gQ,gA,gb,cW,List.cons_append,List.nil_append,List.length_cons,List.length_nil,List.replicate,List.map_cons,List.map_nil] at e ⊢
     refine Ya ?_
     exact e
 · rcases hk2 with rfl|rfl|rfl
   · simp only [GP.B,GP.H,gQ,gA,gb,cW,List.cons_append,List.nil_append,List.length_cons,List.length_nil,List.replicate,List.map_cons,List.map_nil] at hQ ⊢
     refine Yq ?_
     refine ⟨1,?_,by omega,by omega⟩
     simp only [GP.B,GP.H,gQ,gA,gb,cW,List.cons_append,List.nil_append,List.length_cons,List.length_nil,List.replicate,List.map_cons,List.map_nil]
     (refine Sub.ofL [some 0,some 1,some 2,some 3,some 4,some 5,some 6,some 7,some 8,some 10] rfl (by simp) (by decide) (by simp [cQ,AO.ro,AV.ro,AV.roL,names,AO.empty,SB,U8,SI,I64,STR]<;>(try and_intros)<;>rfl) (by simp [AO.bo,AV.bo,AV.boL,names]<;>(try and_intros)<;>rfl) ?_<;>(try simp only [List.map_cons,List.map_nil,cV,AV.ro,AV.roL,AV.bo,AV.boL,names,bK,bE,Nat.reduceBEq,List.getD_cons_zero,List.getD_cons_succ,List.getD_nil,and_true,true_and,Nat.reduceLT,List.length_cons,List.length_nil,Nat.reduceAdd,decide_true,Option.isSome_some,Bool.true_or,Bool.and_self,Option.isSome_none,Bool.false_or,beq_self_eq_true,bL,bM])<;>(try and_intros)<;>(first|done|rfl|exact .inl rfl|exact .inr ⟨rfl,_,_,rfl⟩|(simp;done)|(simp;omega)|(refine .inl ?_;simp;done)|(refine .inl ?_;simp;omega)))
   · by_cases h1:1<labs.length
     · simp only [GP.B,GP.H,gQ,gA,gb,cW,List.cons_append,List.nil_append,List.length_cons,List.length_nil,List.replicate,List.map_cons,List.map_nil] at hQ ⊢
       refine Yq ?_
       refine ⟨2,?_,by omega,by omega⟩
       simp only [GP.B,GP.H,gQ,gA,gb,cW,List.cons_append,List.nil_append,List.length_cons,List.length_nil,List.replicate,List.map_cons,List.map_nil]
       (refine Sub.ofL [some 0,some 1,some 2,some 3,some 4,some 5,some 6,some 7,some 8,some 11] rfl (by simp) (by decide) (by simp [cQ,AO.ro,AV.ro,AV.roL,names,AO.empty,SB,U8,SI,I64,STR]<;>(try and_intros)<;>rfl) (by simp [AO.bo,AV.bo,AV.boL,names]<;>(try and_intros)<;>rfl) ?_<;>(try simp only [List.map_cons,List.map_nil,cV,AV.ro,AV.roL,AV.bo,AV.boL,names,bK,bE,Nat.reduceBEq,List.getD_cons_zero,List.getD_cons_succ,List.getD_nil,and_true,true_and,Nat.reduceLT,List.length_cons,List.length_nil,Nat.reduceAdd,decide_true,Option.isSome_some,Bool.true_or,Bool.and_self,Option.isSome_none,Bool.false_or,beq_self_eq_true,bL,bM])<;>(try and_intros)<;>(first|done|rfl|exact .inl rfl|exact .inr ⟨rfl,_,_,rfl⟩|(simp;done)|(simp;omega)|(refine .inl ?_;simp;done)|(refine .inl ?_;simp;omega)))
     · have e:=hQ 1 (by omega)
       simp only [GP.B,GP.H,gQ,gA,gb,cW,List.cons_append,List.nil_append,List.length_cons,List.length_nil,List.replicate,List.map_cons,List.map_nil] at e ⊢
       refine Ya ?_
       exact e
   · have e:=hQ 2 (by omega)
     simp only [GP.B,GP.H,gQ,gA,gb,cW,List.cons_append,List.nil_append,List.length_cons,List.length_nil,List.replicate,List.map_cons,List.map_nil] at e ⊢
     refine Ya ?_
     exact e
 · rcases hk2 with rfl|rfl|rfl
   · simp only [GP.B,GP.H,gQ,gA,gb,cW,List.cons_append,List.nil_append,List.length_cons,List.length_nil,List.replicate,List.map_cons,List.map_nil] at hQ ⊢
     refine Yq ?_
     refine ⟨1,?_,by omega,by omega⟩
     simp only [GP.B,GP.H,gQ,gA,gb,cW,List.cons_append,List.nil_append,List.length_cons,List.length_nil,List.replicate,List.map_cons,List.map_nil]
     (refine Sub.ofL [some 0,some 1,some 2,some 3,some 4,some 5,some 6,some 7,some 8,some 9,some 11] rfl (by simp) (by decide) (by simp [cQ,AO.ro,AV.ro,AV.roL,names,AO.empty,SB,U8,SI,I64,STR]<;>(try and_intros)<;>rfl) (by simp [AO.bo,AV.bo,AV.boL,names]<;>(try and_intros)<;>rfl) ?_<;>(try simp only [List.map_cons,List.map_nil,cV,AV.ro,AV.roL,AV.bo,AV.boL,names,bK,bE,Nat.reduceBEq,List.getD_cons_zero,List.getD_cons_succ,List.getD_nil,and_true,true_and,Nat.reduceLT,List.length_cons,List.length_nil,Nat.reduceAdd,decide_true,Option.isSome_some,Bool.true_or,Bool.and_self,Option.isSome_none,Bool.false_or,beq_self_eq_true,bL,bM])<;>(try and_intros)<;>(first|done|rfl|exact .inl rfl|exact .inr ⟨rfl,_,_,rfl⟩|(simp;done)|(simp;omega)|(refine .inl ?_;simp;done)|(refine .inl ?_;simp;omega)))
   · by_cases h1:1<labs.length
     · simp only [GP.B,GP.H,gQ,gA,gb,cW,List.cons_append,List.nil_append,List.length_cons,List.length_nil,List.replicate,List.map_cons,List.map_nil] at hQ ⊢
       refine Yq ?_
       refine ⟨2,?_,by omega,by omega⟩
       simp only [GP.B,GP.H,gQ,gA,gb,cW,List.cons_append,List.nil_append,List.length_cons,List.length_nil,List.replicate,List.map_cons,List.map_nil]
       (refine Sub.ofL [some 0,some 1,some 2,some 3,some 4,some 5,some 6,some 7,some 8,some 9,some 12] rfl (by simp) (by decide) (by simp [cQ,AO.ro,AV.ro,AV.roL,names,AO.empty,SB,U8,SI,I64,STR]<;>(try and_intros)<;>rfl) (by simp [AO.bo,AV.bo,AV.boL,names]<;>(try and_intros)<;>rfl) ?_<;>(try simp only [List.map_cons,List.map_nil,cV,AV.ro,AV.roL,AV.bo,AV.boL,names,bK,bE,Nat.reduceBEq,List.getD_cons_zero,List.getD_cons_succ,List.getD_nil,and_true,true_and,Nat.reduceLT,List.length_cons,List.length_nil,Nat.reduceAdd,decide_true,Option.isSome_some,Bool.true_or,Bool.and_self,Option.isSome_none,Bool.false_or,beq_self_eq_true,bL,bM])<;>(try and_intros)<;>(first|done|rfl|exact .inl rfl|exact .inr ⟨rfl,_,_,rfl⟩|(simp;done)|(simp;omega)|(refine .inl ?_;simp;done)|(refine .inl ?_;simp;omega)))
     · have e:=hQ 1 (by omega)
       simp only [GP.B,GP.H,gQ,gA,gb,cW,List.cons_append,List.nil_append,List.length_cons,List.length_nil,List.replicate,List.map_cons,List.map_nil] at e ⊢
       refine Ya ?_
       exact e
   · have e:=hQ 2 (by omega)
     simp only [GP.B,GP.H,gQ,gA,gb,cW,List.cons_append,List.nil_append,List.length_cons,List.length_nil,List.replicate,List.map_cons,List.map_nil] at e ⊢
     refine Ya ?_
     exact e
def GP.add (g:GP) (r:Nat) (u:Int):GP:={ g with r:=r,us:=fun q=>if q=g.l.length then u else g.us q,l:=g.l++[g.l.length] }
def uB (cs:Nat->List Cap) (j n:Nat):Nat->List Cap:=fun q=>if q=j then List.replicate n W0 else cs q
set_option maxHeartbeats 16000000 in
theorem aUw (g:GP) (hl:GM g.l) (hnl:g.labs.length=1∨g.labs.length=2) (u:Int) (cs:Nat->List Cap) (Q:AE->St->Prop)
 (hQ:∀ (r':Nat) (H':List AO),Sub 0 ⟨[(1,.sl true 1 (g.ns.map I64)),(4,.ref 0 0 0),(6,.ref 1 0 0),(7,.sl false 1 (g.pl.map .str)),(8,.int .i64 ((g.l.length:Int)+1))],H'⟩ ⟨[(1,.sl true 1 (g.ns.map I64)),(4,.ref 0 0 0),(6,.ref 1 0 0),(7,.sl false 1 (g.pl.map .str)),(8,.int .i64 ((g.l.length:Int)+1))],(g.add r' u).B (uB cs g.l.length g.labs.length)⟩->Q .normal ⟨[(1,.sl true 1 (g.ns.map I64)),(4,.ref 0 0 0),(6,.ref 1 0 0),(7,.sl false 1 (g.pl.map .str)),(8,.int .i64 (g.l.length:Int))],H'⟩) :
 aw Tryz.prog wR Q ⟨[(1,.sl true 1 (g.ns.map I64)),(4,.ref 0 0 0),(6,.ref 1 0 0),(7,.sl false 1 (g.pl.map .str)),(8,.int .i64 (g.l.length:Int)),(9,.ref (gb g.l) 0 0)],g.B cs++cW (g.ps g.l.length) u (gb g.l) 0⟩:=by
 unfold wR
 refine Ya ?_
 unfold aJo
 refine Ya ?_
 refine aW9 g hl hnl _ u _ cs _ (fun k hk=>?_) _ (.inl rfl)
 have hk2:k=1∨k=2:=by omega
 obtain ⟨ns,labs,pl,r,ps,us,l⟩:=g
 simp only at hl hnl hk hQ ⊢
 cases hl
 · rcases hk2 with rfl|rfl
   all_goals
    simp only [GP.B,GP.H,gQ,gA,gb,cW,List.cons_append,List.nil_append,List.length_cons,List.length_nil,List.replicate,List.map_cons,List.map_nil]
    refine Ya ?_
    refine lD (by decide) rfl rfl (fun y hy=>?_) ?_
    · simp only [ev,bX.get,AV.cells] at hy
      simp only [↓reduceIte,Nat.reduceEqDiff,List.mem_cons,List.not_mem_nil,or_false] at hy
      rcases hy with rfl|rfl|rfl<;>rfl
    refine Ya ?_
    refine lE (n:=0) (m:=1) (by decide) (by decide) (.inl ⟨rfl,rfl,rfl⟩) (by simp) rfl rfl rfl (by decide) (by decide) (fun r'=>?_)
    simp -implicitDefEqProofs(disch:=first|decide|omega)only[↓aA,aC,aB,simprocAttr,List.take_succ_cons,List.take_zero,List.cons_append,List.nil_append,Nat.reduceMul]
    refine hQ r' _ ?_
    simp only [GP.add,uB,GP.B,GP.H,gQ,gA,List.cons_append,List.nil_append,List.length_cons,List.length_nil,List.length_append,↓reduceIte,Nat.reduceEqDiff,Nat.one_ne_zero,Nat.zero_ne_one,<- hk,List.replicate,List.map_cons,List.map_nil]
    (refine Sub.ofL [some 0,some 1,some 5,some 3] rfl (by simp) (by decide) (by simp [cQ,AO.ro,AV.ro,AV.roL,names,AO.empty,SB,U8,SI,I64,STR]<;>(try and_intros)<;>rfl) (by simp [AO.bo,AV.bo,AV.boL,names]<;>(try and_intros)<;>rfl) ?_<;>(try simp only [List.map_cons,List.map_nil,cV,AV.ro,AV.roL,AV.bo,AV.boL,names,bK,bE,Nat.reduceBEq,List.getD_cons_zero,List.getD_cons_succ,List.getD_nil,and_true,true_and,Nat.reduceLT,List.length_cons,List.length_nil,Nat.reduceAdd,decide_true,Option.isSome_some,Bool.true_or,Bool.and_self,Option.isSome_none,Bool.false_or,beq_self_eq_true,bL,bM])<;>(try and_intros)<;>(first|done|rfl|exact .inl rfl|exact .inr ⟨rfl,_,_,rfl⟩|(simp;done)|(simp;omega)|(refine .inl ?_;simp;done)|(refine .inl ?_;simp;omega)))
 · rcases hk2 with rfl|rfl
   all_goals
    simp only [GP.B,GP.H,gQ,gA,gb,cW,List.cons_append,List.nil_append,List.length_cons,List.length_nil,List.replicate,List.map_cons,List.map_nil]
    refine Ya ?_
    refine lD (by decide) rfl rfl (fun y hy=>?_) ?_
    · simp only [ev,bX.get,AV.cells] at hy
      simp only [↓reduceIte,Nat.reduceEqDiff,List.mem_cons,List.not_mem_nil,or_false] at hy
      rcases hy with rfl|rfl|rfl<;>rfl
    refine Ya ?_
    refine lE (n:=1) (m:=1) (by decide) (by decide) (.inr ⟨2,rfl,rfl⟩) (by simp only [List.length_cons];omega) rfl rfl rfl (by decide) (by decide) (fun r'=>?_)
    simp -implicitDefEqProofs(disch:=first|decide|omega)only[↓aA,aC,aB,simprocAttr,List.take_succ_cons,List.take_zero,List.cons_append,List.nil_append,Nat.reduceMul]
    refine hQ r' _ ?_
    simp only [GP.add,uB,GP.B,GP.H,gQ,gA,List.cons_append,List.nil_append,List.length_cons,List.length_nil,List.length_append,↓reduceIte,Nat.reduceEqDiff,Nat.one_ne_zero,Nat.zero_ne_one,<- hk,List.replicate,List.map_cons,List.map_nil]
    (refine Sub.ofL [some 0,some 1,some 7,some 3,some 5] rfl (by simp) (by decide) (by simp [cQ,AO.ro,AV.ro,AV.roL,names,AO.empty,SB,U8,SI,I64,STR]<;>(try and_intros)<;>rfl) (by simp [AO.bo,AV.bo,AV.boL,names]<;>(try and_intros)<;>rfl) ?_<;>(try simp only [List.map_cons,List.map_nil,cV,AV.ro,AV.roL,AV.bo,AV.boL,names,bK,bE,Nat.reduceBEq,List.getD_cons_zero,List.getD_cons_succ,List.getD_nil,and_true,true_and,Nat.reduceLT,List.length_cons,List.length_nil,Nat.reduceAdd,decide_true,Option.isSome_some,Bool.true_or,Bool.and_self,Option.isSome_none,Bool.false_or,beq_self_eq_true,bL,bM])<;>(try and_intros)<;>(first|done|rfl|exact .inl rfl|exact .inr ⟨rfl,_,_,rfl⟩|(simp;done)|(simp;omega)|(refine .inl ?_;simp;done)|(refine .inl ?_;simp;omega)))
 · rcases hk2 with rfl|rfl
   all_goals
    simp only [GP.B,GP.H,gQ,gA,gb,cW,List.cons_append,List.nil_append,List.length_cons,List.length_nil,List.replicate,List.map_cons,List.map_nil]
    refine Ya ?_
    refine lD (by decide) rfl rfl (fun y hy=>?_) ?_
    · simp only [ev,bX.get,AV.cells] at hy
      simp only [↓reduceIte,Nat.reduceEqDiff,List.mem_cons,List.not_mem_nil,or_false] at hy
      rcases hy with rfl|rfl|rfl<;>rfl
    refine Ya ?_
    refine lE (n:=2) (m:=1) (by decide) (by decide) (.inr ⟨2,rfl,rfl⟩) (by simp only [List.length_cons];omega) rfl rfl rfl (by decide) (by decide) (fun r'=>?_)
    simp -implicitDefEqProofs(disch:=first|decide|omega)only[↓aA,aC,aB,simprocAttr,List.take_succ_cons,List.take_zero,List.cons_append,List.nil_append,Nat.reduceMul]
    refine hQ r' _ ?_
    simp only [GP.add,uB,GP.B,GP.H,gQ,gA,List.cons_append,List.nil_append,List.length_cons,List.length_nil,List.length_append,↓reduceIte,Nat.reduceEqDiff,Nat.one_ne_zero,Nat.zero_ne_one,<- hk,List.replicate,List.map_cons,List.map_nil]
    (refine Sub.ofL [some 0,some 1,some 8,some 3,some 4,some 6] rfl (by simp) (by decide) (by simp [cQ,AO.ro,AV.ro,AV.roL,names,AO.empty,SB,U8,SI,I64,STR]<;>(try and_intros)<;>rfl) (by simp [AO.bo,AV.bo,AV.boL,names]<;>(try and_intros)<;>rfl) ?_<;>(try simp only [List.map_cons,List.map_nil,cV,AV.ro,AV.roL,AV.bo,AV.boL,names,bK,bE,Nat.reduceBEq,List.getD_cons_zero,List.getD_cons_succ,List.getD_nil,and_true,true_and,Nat.reduceLT,List.length_cons,List.length_nil,Nat.reduceAdd,decide_true,Option.isSome_some,Bool.true_or,Bool.and_self,Option.isSome_none,Bool.false_or,beq_self_eq_true,bL,bM])<;>(try and_intros)<;>(first|done|rfl|exact .inl rfl|exact .inr ⟨rfl,_,_,rfl⟩|(simp;done)|(simp;omega)|(refine .inl ?_;simp;done)|(refine .inl ?_;simp;omega)))
 · rcases hk2 with rfl|rfl
   all_goals
    simp only [GP.B,GP.H,gQ,gA,gb,cW,List.cons_append,List.nil_append,List.length_cons,List.length_nil,List.replicate,List.map_cons,List.map_nil]
    refine Ya ?_
    refine lD (by decide) rfl rfl (fun y hy=>?_) ?_
    · simp only [ev,bX.get,AV.cells] at hy
      simp only [↓reduceIte,Nat.reduceEqDiff,List.mem_cons,List.not_mem_nil,or_false] at hy
      rcases hy with rfl|rfl|rfl<;>rfl
    refine Ya ?_
    refine lE (n:=3) (m:=1) (by decide) (by decide) (.inr ⟨2,rfl,rfl⟩) (by simp only [List.length_cons];omega) rfl rfl rfl (by decide) (by decide) (fun r'=>?_)
    simp -implicitDefEqProofs(disch:=first|decide|omega)only[↓aA,aC,aB,simprocAttr,List.take_succ_cons,List.take_zero,List.cons_append,List.nil_append,Nat.reduceMul]
    refine hQ r' _ ?_
    simp only [GP.add,uB,GP.B,GP.H,gQ,gA,List.cons_append,List.nil_append,List.length_cons,List.length_nil,List.length_append,↓reduceIte,Nat.reduceEqDiff,Nat.one_ne_zero,Nat.zero_ne_one,<- hk,List.replicate,List.map_cons,List.map_nil]
    (refine Sub.ofL [some 0,some 1,some 9,some 3,some 4,some 5,some 7] rfl (by simp) (by decide) (by simp [cQ,AO.ro,AV.ro,AV.roL,names,AO.empty,SB,U8,SI,I64,STR]<;>(try and_intros)<;>rfl) (by simp [AO.bo,AV.bo,AV.boL,names]<;>(try and_intros)<;>rfl) ?_<;>(try simp only [List.map_cons,List.map_nil,cV,AV.ro,AV.roL,AV.bo,AV.boL,names,bK,bE,Nat.reduceBEq,List.getD_cons_zero,List.getD_cons_succ,List.getD_nil,and_true,true_and,Nat.reduceLT,List.length_cons,List.length_nil,Nat.reduceAdd,decide_true,Option.isSome_some,Bool.true_or,Bool.and_self,Option.isSome_none,Bool.false_or,beq_self_eq_true,bL,bM])<;>(try and_intros)<;>(first|done|rfl|exact .inl rfl|exact .inr ⟨rfl,_,_,rfl⟩|(simp;done)|(simp;omega)|(refine .inl ?_;simp;done)|(refine .inl ?_;simp;omega)))
 · rcases hk2 with rfl|rfl
   all_goals
    simp only [GP.B,GP.H,gQ,gA,gb,cW,List.cons_append,List.nil_append,List.length_cons,List.length_nil,List.replicate,List.map_cons,List.map_nil]
    refine Ya ?_
    refine lD (by decide) rfl rfl (fun y hy=>?_) ?_
    · simp only [ev,bX.get,AV.cells] at hy
      simp only [↓reduceIte,Nat.reduceEqDiff,List.mem_cons,List.not_mem_nil,or_false] at hy
      rcases hy with rfl|rfl|rfl<;>rfl
    refine Ya ?_
    refine lE (n:=4) (m:=1) (by decide) (by decide) (.inr ⟨2,rfl,rfl⟩) (by simp only [List.length_cons];omega) rfl rfl rfl (by decide) (by decide) (fun r'=>?_)
    simp -implicitDefEqProofs(disch:=first|decide|omega)only[↓aA,aC,aB,simprocAttr,List.take_succ_cons,List.take_zero,List.cons_append,List.nil_append,Nat.reduceMul]
    refine hQ r' _ ?_
    simp only [GP.add,uB,GP.B,GP.H,gQ,gA,List.cons_append,List.nil_append,List.length_cons,List.length_nil,List.length_append,↓reduceIte,Nat.reduceEqDiff,Nat.one_ne_zero,Nat.zero_ne_one,<- hk,List.replicate,List.map_cons,List.map_nil]
    (refine Sub.ofL [some 0,some 1,some 10,some 3,some 4,some 5,some 6,some 8] rfl (by simp) (by decide) (by simp [cQ,AO.ro,AV.ro,AV.roL,names,AO.empty,SB,U8,SI,I64,STR]<;>(try and_intros)<;>rfl) (by simp [AO.bo,AV.bo,AV.boL,names]<;>(try and_intros)<;>rfl) ?_<;>(try simp only [List.map_cons,List.map_nil,cV,AV.ro,AV.roL,AV.bo,AV.boL,names,bK,bE,Nat.reduceBEq,List.getD_cons_zero,List.getD_cons_succ,List.getD_nil,and_true,true_and,Nat.reduceLT,List.length_cons,List.length_nil,Nat.reduceAdd,decide_true,Option.isSome_some,Bool.true_or,Bool.and_self,Option.isSome_none,Bool.false_or,beq_self_eq_true,bL,bM])<;>(try and_intros)<;>(first|done|rfl|exact .inl rfl|exact .inr ⟨rfl,_,_,rfl⟩|(simp;done)|(simp;omega)|(refine .inl ?_;simp;done)|(refine .inl ?_;simp;omega)))
 · rcases hk2 with rfl|rfl
   all_goals
    simp only [GP.B,GP.H,gQ,gA,gb,cW,List.cons_append,List.nil_append,List.length_cons,List.length_nil,List.replicate,List.map_cons,List.map_nil]
    refine Ya ?_
    refine lD (by decide) rfl rfl (fun y hy=>?_) ?_
    · simp only [ev,bX.get,AV.cells] at hy
      simp only [↓reduceIte,Nat.reduceEqDiff,List.mem_cons,List.not_mem_nil,or_false] at hy
      rcases hy with rfl|rfl|rfl<;>rfl
    refine Ya ?_
    refine lE (n:=5) (m:=1) (by decide) (by decide) (.inr ⟨2,rfl,rfl⟩) (by simp only [List.length_cons];omega) rfl rfl rfl (by decide) (by decide) (fun r'=>?_)
    simp -implicitDefEqProofs(disch:=first|decide|omega)only[↓aA,aC,aB,simprocAttr,List.take_succ_cons,List.take_zero,List.cons_append,List.nil_append,Nat.reduceMul]
    refine hQ r' _ ?_
    simp only [GP.add,uB,GP.B,GP.H,gQ,gA,List.cons_append,List.nil_append,List.length_cons,List.length_nil,List.length_append,↓reduceIte,Nat.reduceEqDiff,Nat.one_ne_zero,Nat.zero_ne_one,<- hk,List.replicate,List.map_cons,List.map_nil]
    (refine Sub.ofL [some 0,some 1,some 11,some 3,some 4,some 5,some 6,some 7,some 9] rfl (by simp) (by decide) (by simp [cQ,AO.ro,AV.ro,AV.roL,names,AO.empty,SB,U8,SI,I64,STR]<;>(try and_intros)<;>rfl) (by simp [AO.bo,AV.bo,AV.boL,names]<;>(try and_intros)<;>rfl) ?_<;>(try simp only [List.map_cons,List.map_nil,cV,AV.ro,AV.roL,AV.bo,AV.boL,names,bK,bE,Nat.reduceBEq,List.getD_cons_zero,List.getD_cons_succ,List.getD_nil,and_true,true_and,Nat.reduceLT,List.length_cons,List.length_nil,Nat.reduceAdd,decide_true,Option.isSome_some,Bool.true_or,Bool.and_self,Option.isSome_none,Bool.false_or,beq_self_eq_true,bL,bM])<;>(try and_intros)<;>(first|done|rfl|exact .inl rfl|exact .inr ⟨rfl,_,_,rfl⟩|(simp;done)|(simp;omega)|(refine .inl ?_;simp;done)|(refine .inl ?_;simp;omega)))
 · rcases hk2 with rfl|rfl
   all_goals
    simp only [GP.B,GP.H,gQ,gA,gb,cW,List.cons_append,List.nil_append,List.length_cons,List.length_nil,List.replicate,List.map_cons,List.map_nil]
    refine Ya ?_
    refine lD (by decide) rfl rfl (fun y hy=>?_) ?_
    · simp only [ev,bX.get,AV.cells] at hy
      simp only [↓reduceIte,Nat.reduceEqDiff,List.mem_cons,List.not_mem_nil,or_false] at hy
      rcases hy with rfl|rfl|rfl<;>rfl
    refine Ya ?_
    refine lE (n:=6) (m:=1) (by decide) (by decide) (.inr ⟨2,rfl,rfl⟩) (by simp only [List.length_cons];omega) rfl rfl rfl (by decide) (by decide) (fun r'=>?_)
    simp -implicitDefEqProofs(disch:=first|decide|omega)only[↓aA,aC,aB,simprocAttr,List.take_succ_cons,List.take_zero,List.cons_append,List.nil_append,Nat.reduceMul]
    refine hQ r' _ ?_
    simp only [GP.add,uB,GP.B,GP.H,gQ,gA,List.cons_append,List.nil_append,List.length_cons,List.length_nil,List.length_append,↓reduceIte,Nat.reduceEqDiff,Nat.one_ne_zero,Nat.zero_ne_one,<- hk,List.replicate,List.map_cons,List.map_nil]
    (refine Sub.ofL [some 0,some 1,some 12,some 3,some 4,some 5,some 6,some 7,some 8,some 10] rfl (by simp) (by decide) (by simp [cQ,AO.ro,AV.ro,AV.roL,names,AO.empty,SB,U8,SI,I64,STR]<;>(try and_intros)<;>rfl) (by simp [AO.bo,AV.bo,AV.boL,names]<;>(try and_intros)<;>rfl) ?_<;>(try simp only [List.map_cons,List.map_nil,cV,AV.ro,AV.roL,AV.bo,AV.boL,names,bK,bE,Nat.reduceBEq,List.getD_cons_zero,List.getD_cons_succ,List.getD_nil,and_true,true_and,Nat.reduceLT,List.length_cons,List.length_nil,Nat.reduceAdd,decide_true,Option.isSome_some,Bool.true_or,Bool.and_self,Option.isSome_none,Bool.false_or,beq_self_eq_true,bL,bM])<;>(try and_intros)<;>(first|done|rfl|exact .inl rfl|exact .inr ⟨rfl,_,_,rfl⟩|(simp;done)|(simp;omega)|(refine .inl ?_;simp;done)|(refine .inl ?_;simp;omega)))
end Go.Proofs.YtakemdamegfcfaaGreat
