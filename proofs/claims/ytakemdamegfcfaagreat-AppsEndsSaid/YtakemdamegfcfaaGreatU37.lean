/- A part of a proof: what functions of the program compute. No condition. -/
import Derived.Test.YtakemdamegfcfaaGreatT14
import Derived.Test.YtakemdamegfcfaaGreatProg
import Derived.KernelRfl
import Derived.Test.YtakemdamegfcfaaGreatT6
import Derived.Test.YtakemdamegfcfaaGreatT10
import Derived.Test.YtakemdamegfcfaaGreatT36
import Derived.Test.YtakemdamegfcfaaGreatT11
set_option linter.unusedSimpArgs false
set_option linter.unusedVariables false
set_option maxHeartbeats 16000000
set_option maxRecDepth 100000
namespace Go.Proofs.YtakemdamegfcfaaGreat
open Go Go.Ab
theorem x8a {P:Program} {e:Operand->AV} {H:List AO} {K:AV->List AO->Prop} {neg:Bool} {ks:List AV} {x y:Operand}:opD P (.seq neg ks x y) e H K=aGO neg ks (e x) (e y) fun y=>K y H:=propext ⟨fun h=>h.2,fun h=>⟨rfl,h⟩⟩
theorem x8b {a:App}:partOf (bI a) 8 1 false= .int .i64 a.seen:=rfl
theorem x8c {a:Node}:partOf (cB a) 5 1 false= .int .i64 a.seen:=rfl
theorem x8d {a:Node} {v:Int}: .int .i64 v :: List.drop 1 (cB a)=cB { a with id:=v }:=rfl
theorem x8e {a:Node} {v:Int}:List.take 1 (cB a)++[.int .i64 v]++List.drop 2 (cB a)=cB { a with label:=v }:=rfl
theorem x8f {a:Node} {v:Int}:List.take 2 (cB a)++[.int .i64 v]++List.drop 3 (cB a)=cB { a with rack:=v }:=rfl
theorem x8g {l:List Node} {i:Nat} (h:i<l.length):(l.map bO).getD i .top=bO l[i]:=by simp [List.getD_eq_getElem?_getD,h]
theorem x8h {l:List Node} {i:Nat} {v:Int}:(l.map bO).set i (dS ((l.map bO).getD i .top) 5 1 [.int .i64 v])=(l.set i { l.getD i default with seen:=v }).map bO:=by
 by_cases h:i<l.length
 · rw [x8g h,List.map_set,List.getD_eq_getElem?_getD,List.getElem?_eq_getElem h];rfl
 · rw [List.set_eq_of_length_le (by simp;omega),List.set_eq_of_length_le (by omega)]
theorem x8i {l:List Node} {i:Nat} {v:Int}:(l.map bO).set i (dS ((l.map bO).getD i .top) 6 1 [.int .i64 v])=(l.set i { l.getD i default with beat:=v }).map bO:=by
 by_cases h:i<l.length
 · rw [x8g h,List.map_set,List.getD_eq_getElem?_getD,List.getElem?_eq_getElem h];rfl
 · rw [List.set_eq_of_length_le (by simp;omega),List.set_eq_of_length_le (by omega)]
set_option linter.defProp false in
def x8:=And.intro @x8a (And.intro @x8b (And.intro @x8c (And.intro @x8d (And.intro @x8e (And.intro @x8f (And.intro @x8h @x8i))))))
theorem eqX:(∀ {α:Type} [BEq α] [LawfulBEq α] (a:α),(a==a)=true)/\(∀ {α:Type} [BEq α] [LawfulBEq α] (a:α),(a !=a)=false)/\(!true)=false/\(!false)=true/\∀ b:Bool,(b&&b)=b:=⟨fun a=>beq_self_eq_true a,fun a=>bne_self_eq_false a,rfl,rfl,Bool.and_self⟩
theorem Wa {P Q:Prop} (q:Q) (e:P=Q:=by conv=>lhs;simp -implicitDefEqProofs(disch:=first|decide|omega)only[↓aA,aC,aB,simprocAttr,x8]):P:=e.mpr q
theorem Va {P Q A:Prop} (a:A) (q:Q) (e:A->P=Q:=by intro a;conv=>lhs;simp -implicitDefEqProofs(disch:=first|decide|omega)only[↓aA,aC,aB,simprocAttr,x8,a]):P:=(e a).mpr q
theorem Wb {P Q:Prop} (q:Q) (e:P=Q:=by conv=>lhs;simp -implicitDefEqProofs(disch:=first|decide|omega)only[↓aA,aC,aB,simprocAttr,x8,bB]):P:=e.mpr q
theorem Wh {P Q:Prop} (q:Q) (e:P=Q:=by conv=>lhs;simp -implicitDefEqProofs(disch:=first|decide|omega)only[↓aA,aC,aB,simprocAttr,x8,bB,a9]):P:=e.mpr q
theorem Vh {P Q A:Prop} (a:A) (q:Q) (e:A->P=Q:=by intro a;conv=>lhs;simp -implicitDefEqProofs(disch:=first|decide|omega)only[↓aA,aC,aB,simprocAttr,x8,bB,a9,a]):P:=(e a).mpr q
theorem Wr {P Q:Prop} (q:Q) (e:P=Q:=by conv=>lhs;simp -implicitDefEqProofs(disch:=first|decide|omega)only[↓aA,aC,aB,simprocAttr,x8,a9]):P:=e.mpr q
theorem Ws {P Q:Prop} (q:Q) (e:P=Q:=by conv=>lhs;simp -implicitDefEqProofs(disch:=first|decide|omega)only[↓aA,aC,aB,simprocAttr,x8,AV.ren,AO.ren,AV.lG,ext,spl,j8,List.length_cons,List.length_nil,List.getD_cons_zero,List.getD_cons_succ,List.map_cons,List.map_nil]):P:=e.mpr q
theorem Wt {P Q:Prop} (q:Q) (e:P=Q:=by conv=>lhs;simp -implicitDefEqProofs(disch:=first|decide|omega)only[↓aA,aC,aB,simprocAttr,x8,bB,a9,eqX]):P:=e.mpr q
theorem Wu {P Q:Prop} (q:Q) (e:P=Q:=by conv=>lhs;simp -implicitDefEqProofs(disch:=first|decide|omega)only[↓aA,aC,aB,simprocAttr,x8,bB,eqX]):P:=e.mpr q
theorem Ta {P:Prop} (e:P:=by simp -implicitDefEqProofs(disch:=first|decide|omega)only[↓aA,aC,aB,simprocAttr,x8]):P:=e
theorem Th {P:Prop} (e:P:=by simp -implicitDefEqProofs(disch:=first|decide|omega)only[↓aA,aC,aB,simprocAttr,x8,bB,a9]):P:=e
abbrev ox (d:Nat) (c:CO):aP:=⟨some d,c,none⟩
abbrev tx (k:Nat):Operand:=.tmp k
abbrev mx (k:Nat):CO:=.mv (.tmp k)
def a1z:{c:CC // aJ Tryz.prog 115=c}:=⟨_,by conv=>lhs;reduce⟩
def aZT:{c:CC // bA Tryz.prog 115 { fs:=false } a1z.1 []=c}:=⟨_,by conv=>lhs;reduce⟩
def aPX:CC:=(fun (c:CC) (_:(aZT.1)=c)=>c) _ (by conv=>lhs;reduce)
theorem aWI:aZ Tryz.prog 115 aPX [2] 8:=aZ.of Tryz.f115 Tryz.func115 rfl
def aPW:CC:=(fun (c:CC) (_:((.seq (.reg [ox 2 (.mv (.const (.slice none 0 0)))] false [] (some [0])) (.seq (.seq (.reg [ox 3 (mx 0),ox 4 (.isn 1 false (tx 3) (.const (.slice none 0 0)))] false [] (some [0,4])) (.cond (tx 4) (.seq (.reg [ox 2 (.mv (.const (.slice none 0 0)))] false [] (some [2])) .ret) .skip)) (.seq (.reg [ox 5 (.bls 3 0 (.agg [(.str []),.aD,(.int .i64 0)]) []),ox 6 (mx 0),ox 7 (.app 3 48 (tx 5) (tx 6)),ox 2 (mx 7)] false [] (some [2])) .ret))))=c)=>c) _ (by conv=>lhs;reduce)
theorem aWH:aZ Tryz.prog 116 aPW [2] 8:=aZ.of Tryz.f116 Tryz.func116 rfl
def a1y:{c:CC // aJ Tryz.prog 117=c}:=⟨_,by conv=>lhs;reduce⟩
def aZS:{c:CC // bA Tryz.prog 117 { fs:=false } a1y.1 []=c}:=⟨_,by conv=>lhs;reduce⟩
def aPV:CC:=(fun (c:CC) (_:(aZS.1)=c)=>c) _ (by conv=>lhs;reduce)
theorem aWG:aZ Tryz.prog 117 aPV [2] 8:=aZ.of Tryz.f117 Tryz.func117 rfl
def a1v:{c:CC // aJ Tryz.prog 121=c}:=⟨_,by conv=>lhs;reduce⟩
def aZP:{c:CC // bA Tryz.prog 121 { fs:=false } a1v.1 []=c}:=⟨_,by conv=>lhs;reduce⟩
def aPR:CC:=(fun (c:CC) (_:(aZP.1)=c)=>c) _ (by conv=>lhs;reduce)
theorem aWC:aZ Tryz.prog 121 aPR [2] 8:=aZ.of Tryz.f121 Tryz.func121 rfl
def aPQ:CC:=(fun (c:CC) (_:((.seq (.reg [ox 2 (.mv (.const (.slice none 0 0)))] false [] (some [0])) (.seq (.seq (.reg [ox 3 (mx 0),ox 4 (.isn 1 false (tx 3) (.const (.slice none 0 0)))] false [] (some [0,4])) (.cond (tx 4) (.seq (.reg [ox 2 (.mv (.const (.slice none 0 0)))] false [] (some [2])) .ret) .skip)) (.seq (.reg [ox 5 (.bls 14 0 (.agg [(.int .i64 0),(.int .i64 0),(.str []),(.int .i64 0),(.int .i64 0),(.int .i64 0),(.int .i64 0),.aD,(.int .i64 0),(.int .i64 0),.aD,.aD,.aD,.aD]) []),ox 6 (mx 0),ox 7 (.app 14 200 (tx 5) (tx 6)),ox 2 (mx 7)] false [] (some [2])) .ret))))=c)=>c) _ (by conv=>lhs;reduce)
theorem aWB:aZ Tryz.prog 122 aPQ [2] 8:=aZ.of Tryz.f122 Tryz.func122 rfl
def a1u:{c:CC // aJ Tryz.prog 123=c}:=⟨_,by conv=>lhs;reduce⟩
def aZO:{c:CC // bA Tryz.prog 123 { fs:=false } a1u.1 []=c}:=⟨_,by conv=>lhs;reduce⟩
def aPP:CC:=(fun (c:CC) (_:(aZO.1)=c)=>c) _ (by conv=>lhs;reduce)
theorem aWA:aZ Tryz.prog 123 aPP [2] 8:=aZ.of Tryz.f123 Tryz.func123 rfl
theorem aXh (l:List (List UInt8)) (hl:l.length<=2^40):aT Tryz.prog 115 [.sl false 1 (l.map AV.str)] (.sl false 1 (l.map AV.str)):=by
 refine aT.wk3 (aK aWI (by simp) ?_)
 unfold aPX
 refine Ya ?_
 refine ⟨fun e=>?_,?_⟩
 · rw [e]
   exact .inl (.inl (.inr ⟨rfl,_,_,rfl⟩))
 · refine ⟨⟨by omega,by omega⟩,?_⟩
   exact .inl (.inl (.inl rfl))
theorem aXf (l:List (Cap)) (hl:l.length<=2^40):aT Tryz.prog 117 [.sl false 2 (l.map CAP)] (.sl false 2 (l.map CAP)):=by
 refine aT.wk3 (aK aWG (by simp) ?_)
 unfold aPV
 refine Ya ?_
 refine ⟨fun e=>?_,?_⟩
 · rw [e]
   exact .inl (.inl (.inr ⟨rfl,_,_,rfl⟩))
 · refine ⟨⟨by omega,by omega⟩,?_⟩
   exact .inl (.inl (.inl rfl))
theorem aOf (l:List (dR)) (hl:l.length<=2^40):aT Tryz.prog 121 [.sl false 6 (l.map eD)] (.sl false 6 (l.map eD)):=by
 refine aT.wk3 (aK aWC (by simp) ?_)
 unfold aPR
 refine Ya ?_
 refine ⟨fun e=>?_,?_⟩
 · rw [e]
   exact .inl (.inl (.inr ⟨rfl,_,_,rfl⟩))
 · refine ⟨⟨by omega,by omega⟩,?_⟩
   exact .inl (.inl (.inl rfl))
theorem aXa (l:List (Ask)) (hl:l.length<=2^40):aT Tryz.prog 123 [.sl false 8 (l.map ASK)] (.sl false 8 (l.map ASK)):=by
 refine aT.wk3 (aK aWA (by simp) ?_)
 unfold aPP
 refine Ya ?_
 refine ⟨fun e=>?_,?_⟩
 · rw [e]
   exact .inl (.inl (.inr ⟨rfl,_,_,rfl⟩))
 · refine ⟨⟨by omega,by omega⟩,?_⟩
   exact .inl (.inl (.inl rfl))
theorem aXg (l:List (Queue)) (hl:l.length<=2^36):aW Tryz.prog 116 [.sl false 3 (l.map QUE)] [] fun y G=>y= .own 0 3 0 l.length/\G=[.arr 3 (l.map QUE)]:=by
 have key:aW Tryz.prog 116 [.sl false 3 (l.map QUE)] [] fun y G=>(l=[]/\y= .aD/\G=[])∨(y= .own 1 3 0 l.length/\G=[.dead,.arr 3 (l.map QUE)]):=by
  refine aK aWH (by simp) ?_
  unfold aPW
  refine Ya ?_
  exact ⟨fun e=>List.map_eq_nil_iff.1 e,by omega,by omega⟩
 refine key.sub ?_
 rintro y G (⟨rfl,rfl,rfl⟩|⟨rfl,rfl⟩)
 · refine ⟨_,_,?_,rfl,rfl⟩
   exact Sub.ofS [none]
 · refine ⟨_,_,?_,rfl,rfl⟩
   exact Sub.ofS [some 1]
theorem aXb (l:List (App)) (hl:l.length<=2^36):aW Tryz.prog 122 [.sl false 14 (l.map APP)] [] fun y G=>y= .own 0 14 0 l.length/\G=[.arr 14 (l.map APP)]:=by
 have key:aW Tryz.prog 122 [.sl false 14 (l.map APP)] [] fun y G=>(l=[]/\y= .aD/\G=[])∨(y= .own 1 14 0 l.length/\G=[.dead,.arr 14 (l.map APP)]):=by
  refine aK aWB (by simp) ?_
  unfold aPQ
  refine Ya ?_
  exact ⟨fun e=>List.map_eq_nil_iff.1 e,by omega,by omega⟩
 refine key.sub ?_
 rintro y G (⟨rfl,rfl,rfl⟩|⟨rfl,rfl⟩)
 · refine ⟨_,_,?_,rfl,rfl⟩
   exact Sub.ofS [none]
 · refine ⟨_,_,?_,rfl,rfl⟩
   exact Sub.ofS [some 1]
structure NOk (s:Sta):Prop where
 c0:CT s.labels s.qs
 n:s.nodes.length<=2^36
 a:s.apps.length<=2^36
 at_:∀ a∈s.apps,AT a
 c_:s.conts.length<=2^36
 s_:s.slots.length<=2^36
 p:s.plans.length<=2^36
def NL:List AV:=[.aD,.aD,.aD,.aD,.aD,.aD,.aD,.int .i64 0,.int .i64 0,.int .i64 0]
def b8N:{c:CC // aJ Tryz.prog 118=c}:=⟨_,by conv=>lhs;reduce⟩
def b8J:{c:CC // bA Tryz.prog 118 { fs:=false } b8N.1 []=c}:=⟨_,by conv=>lhs;reduce⟩
def a36:CC:=(fun (c:CC) (_:(b8J.1)=c)=>c) _ (by conv=>lhs;reduce)
theorem a4z:aZ Tryz.prog 118 a36 [2] 8:=aZ.of Tryz.f118 Tryz.func118 rfl
def a35:CC:=(.seq (.reg [⟨(some 2),(.mv (.const (.slice none 0 0))),none⟩] false [] (some [0])) (.seq (.seq (.reg [⟨(some 3),(.mv (.tmp 0)),none⟩,⟨(some 4),(.isn 1 false (.tmp 3) (.const (.slice none 0 0))),none⟩] false [] (some [0,4])) (.cond (.tmp 4) (.seq (.reg [⟨(some 2),(.mv (.const (.slice none 0 0))),none⟩] false [] (some [2])) .ret) .skip)) (.seq (.reg [⟨(some 5),(.bls 9 0 (.agg [(.int .i64 0),(.int .i64 0),(.int .i64 0),(.int .i64 0),(.int .i64 0),(.int .i64 0),(.int .i64 0),(.bool false),(.int .i64 0)]) []),none⟩,⟨(some 6),(.mv (.tmp 0)),none⟩,⟨(some 7),(.app 9 72 (.tmp 5) (.tmp 6)),none⟩,⟨(some 2),(.mv (.tmp 7)),none⟩] false [] (some [2])) .ret)))
theorem a4y:aZ Tryz.prog 119 a35 [2] 8:=aZ.of Tryz.f119 Tryz.func119 rfl
def a34:CC:=(.seq (.reg [⟨(some 2),(.mv (.const (.slice none 0 0))),none⟩] false [] (some [0])) (.seq (.seq (.reg [⟨(some 3),(.mv (.tmp 0)),none⟩,⟨(some 4),(.isn 1 false (.tmp 3) (.const (.slice none 0 0))),none⟩] false [] (some [0,4])) (.cond (.tmp 4) (.seq (.reg [⟨(some 2),(.mv (.const (.slice none 0 0))),none⟩] false [] (some [2])) .ret) .skip)) (.seq (.reg [⟨(some 5),(.bls 3 0 (.agg [(.int .i64 0),(.int .i64 0),(.int .i64 0)]) []),none⟩,⟨(some 6),(.mv (.tmp 0)),none⟩,⟨(some 7),(.app 3 24 (.tmp 5) (.tmp 6)),none⟩,⟨(some 2),(.mv (.tmp 7)),none⟩] false [] (some [2])) .ret)))
theorem a4x:aZ Tryz.prog 120 a34 [2] 8:=aZ.of Tryz.f120 Tryz.func120 rfl
def R38:{c:CC // aJ Tryz.prog 38=c}:=⟨_,by conv=>lhs;reduce⟩
def S38:{c:CC // bA Tryz.prog 38 { fs:=false } R38.1 []=c}:=⟨_,by conv=>lhs;reduce⟩
def a5p:CC:=(fun (c:CC) (_:(S38.1)=c)=>c) _ (by conv=>lhs;reduce)
theorem a5E:aZ Tryz.prog 38 a5p [2] 11:=aZ.of Tryz.f38 Tryz.func38 rfl
def R39:{c:CC // aJ Tryz.prog 39=c}:=⟨_,by conv=>lhs;reduce⟩
def S39:{c:CC // bA Tryz.prog 39 { gc:=0,fs:=false } R39.1 []=c}:=⟨_,by conv=>lhs;reduce⟩
def a6C:CC:=(fun (c:CC) (_:(S39.1)=c)=>c) _ (by conv=>lhs;reduce)
theorem a6A:aX Tryz.prog 39 a6C [.ce 4 64 14 true,.tm 5] 19:=aX.of Tryz.f39 Tryz.func39 rfl ⟨by kernel_rfl,trivial⟩
def R70:{c:CC // aJ Tryz.prog 70=c}:=⟨_,by conv=>lhs;reduce⟩
def S70:{c:CC // bA Tryz.prog 70 { fs:=false } R70.1 [([1,0],(.f [0,1,4,5,2,6,2003,8,9,7,10,11,12,13])),([1,1,0,1,0,0,1,1,0,0,1],(.f [0,1,3,4,2,5,2006,7,8,9])),([1,1,1,0],(.p [0,3,6,9,1] (.p [2,4] (.p [5,7] (.f [8,10,12,11,13,14,15,16,17,18,19]) (.f [10,12,8,11,13,14,15,16,17,18,19])) (.p [] (.p [7] (.p [5] (.f [8,10,12,11,13,14,15,16,17,18,19]) (.f [10,12,8,11,13,14,15,16,17,18,19])) (.f [10,12,5,8,11,13,14,15,16,17,18,19])) (.p [10] (.f [5,7,12,8,11,13,14,15,16,17,18,19]) (.f [7,12,5,8,11,13,14,15,16,17,18,19])))) (.p [] (.p [4] (.p [2] (.p [5,7] (.f [8,10,12,11,13,14,15,16,17,18,19]) (.f [10,12,8,11,13,14,15,16,17,18,19])) (.p [] (.p [7] (.p [5] (.f [8,10,12,11,13,14,15,16,17,18,19]) (.f [10,12,8,11,13,14,15,16,17,18,19])) (.f [10,12,5,8,11,13,14,15,16,17,18,19])) (.p [10] (.f [5,7,12,8,11,13,14,15,16,17,18,19]) (.f [7,12,5,8,11,13,14,15,16,17,18,19])))) (.p [] (.p [7] (.p [2] (.p [5] (.f [8,10,12,11,13,14,15,16,17,18,19]) (.f [10,12,8,11,13,14,15,16,17,18,19])) (.f [10,12,5,8,11,13,14,15,16,17,18,19])) (.f [10,2,12,5,8,11,13,14,15,16,17,18,19])) (.p [10] (.p [2] (.f [5,7,12,8,11,13,14,15,16,17,18,19]) (.f [7,12,5,8,11,13,14,15,16,17,18,19])) (.f [7,2,12,5,8,11,13,14,15,16,17,18,19])))) (.p [] (.p [7] (.p [2,4] (.p [5] (.f [8,10,12,11,13,14,15,16,17,18,19]) (.f [10,12,8,11,13,14,15,16,17,18,19])) (.f [10,12,5,8,11,13,14,15,16,17,18,19])) (.p [] (.p [4] (.p [2] (.p [5] (.f [8,10,12,11,13,14,15,16,17,18,19]) (.f [10,12,8,11,13,14,15,16,17,18,19])) (.f [10,12,5,8,11,13,14,15,16,17,18,19])) (.f [10,2,12,5,8,11,13,14,15,16,17,18,19])) (.p [10] (.f [2,4,12,5,8,11,13,14,15,16,17,18,19]) (.f [4,2,12,5,8,11,13,14,15,16,17,18,19])))) (.p [10] (.p [2,4] (.f [5,7,12,8,11,13,14,15,16,17,18,19]) (.f [7,12,5,8,11,13,14,15,16,17,18,19])) (.p [] (.p [4] (.p [2] (.f [5,7,12,8,11,13,14,15,16,17,18,19]) (.f [7,12,5,8,11,13,14,15,16,17,18,19])) (.f [7,2,12,5,8,11,13,14,15,16,17,18,19])) (.p [7] (.f [2,4,12,5,8,11,13,14,15,16,17,18,19]) (.f [4,2,12,5,8,11,13,14,15,16,17,18,19])))))))),([1,1,1,1,1,0,1,0,0,1,1,0,0,1],(.f [0,2,1,3,2004,5,6]))]=c}:=⟨_,by conv=>lhs;reduce⟩
def a3v:CC:=(fun (c:CC) (_:(S70.1.aV [1,1,1,1,1,0,1,0,0])=c)=>c) _ (by conv=>lhs;reduce)
def a3y:CC:=(fun (c:CC->CC) (_:(fun a0=>(S70.1.aV [1,1,1,1,1,0,1]).aU [0,0] a0)=c)=>c) _ (by conv=>lhs;reduce) a3v
def a2O:CC:=(fun (c:CC->CC) (_:(fun a0=>(S70.1.aV [1,1,1,1]).aU [1,0,1] a0)=c)=>c) _ (by conv=>lhs;reduce) a3y
def a2P:CC:=(fun (c:CC->CC) (_:(fun a0=>(S70.1.aV [1,1,1]).aU [1] a0)=c)=>c) _ (by conv=>lhs;reduce) a2O
def a3u:CC:=(fun (c:CC) (_:(S70.1.aV [1,1,0,1,0,0])=c)=>c) _ (by conv=>lhs;reduce)
def a3x:CC:=(fun (c:CC->CC) (_:(fun a0=>(S70.1.aV [1,1,0,1]).aU [0,0] a0)=c)=>c) _ (by conv=>lhs;reduce) a3u
def a3w:CC:=(fun (c:CC->CC->CC) (_:(fun a0 a1=>((S70.1.aV [1]).aU [1,0,1] a0).aU [1,1] a1)=c)=>c) _ (by conv=>lhs;reduce) a3x a2P
def a5o:CC:=(fun (c:CC->CC) (_:(fun a0=>(S70.1).aU [1] a0)=c)=>c) _ (by conv=>lhs;reduce) a3w
theorem a4V:aX Tryz.prog 70 a5o [.ce 2 41 10 true] 74:=aX.of Tryz.f70 Tryz.func70 rfl ⟨by kernel_rfl,trivial⟩
def R71:{c:CC // aJ Tryz.prog 71=c}:=⟨_,by conv=>lhs;reduce⟩
def S71:{c:CC // bA Tryz.prog 71 { fs:=false } R71.1 []=c}:=⟨_,by conv=>lhs;reduce⟩
def a5n:CC:=(fun (c:CC) (_:(S71.1)=c)=>c) _ (by conv=>lhs;reduce)
theorem a5D:aZ Tryz.prog 71 a5n [6] 15:=aZ.of Tryz.f71 Tryz.func71 rfl
def R72:{c:CC // aJ Tryz.prog 72=c}:=⟨_,by conv=>lhs;reduce⟩
def S72:{c:CC // bA Tryz.prog 72 { fs:=false } R72.1 []=c}:=⟨_,by conv=>lhs;reduce⟩
def a5m:CC:=(fun (c:CC) (_:(S72.1)=c)=>c) _ (by conv=>lhs;reduce)
theorem a5C:aZ Tryz.prog 72 a5m [4] 9:=aZ.of Tryz.f72 Tryz.func72 rfl
def R73:{c:CC // aJ Tryz.prog 73=c}:=⟨_,by conv=>lhs;reduce⟩
def S73:{c:CC // bA Tryz.prog 73 { fs:=false } R73.1 []=c}:=⟨_,by conv=>lhs;reduce⟩
def a3s:CC:=(fun (c:CC) (_:(S73.1.aV [1,1,0,1,0,0])=c)=>c) _ (by conv=>lhs;reduce)
def a3t:CC:=(fun (c:CC->CC) (_:(fun a0=>(S73.1.aV [1,1,0,1]).aU [0,0] a0)=c)=>c) _ (by conv=>lhs;reduce) a3s
def a5l:CC:=(fun (c:CC->CC) (_:(fun a0=>(S73.1).aU [1,1,0,1] a0)=c)=>c) _ (by conv=>lhs;reduce) a3t
theorem a5B:aZ Tryz.prog 73 a5l [2] 18:=aZ.of Tryz.f73 Tryz.func73 rfl
def R75:{c:CC // aJ Tryz.prog 75=c}:=⟨_,by conv=>lhs;reduce⟩
def S75:{c:CC // bA Tryz.prog 75 { gc:=1,fs:=false } R75.1 []=c}:=⟨_,by conv=>lhs;reduce⟩
def a2K:CC:=(fun (c:CC) (_:(S75.1.aV [1,0,1,0,0])=c)=>c) _ (by conv=>lhs;reduce)
def a2L:CC:=(fun (c:CC->CC) (_:(fun a0=>(S75.1.aV [1,0,1]).aU [0,0] a0)=c)=>c) _ (by conv=>lhs;reduce) a2K
def a4F:CC:=(fun (c:CC->CC) (_:(fun a0=>(S75.1).aU [1,0,1] a0)=c)=>c) _ (by conv=>lhs;reduce) a2L
theorem a4X:aZ Tryz.prog 75 a4F [4] 19:=aZ.of Tryz.f75 Tryz.func75 rfl
def R76:{c:CC // aJ Tryz.prog 76=c}:=⟨_,by conv=>lhs;reduce⟩
def S76:{c:CC // bA Tryz.prog 76 { fs:=false } R76.1 []=c}:=⟨_,by conv=>lhs;reduce⟩
def a5j:CC:=(fun (c:CC) (_:(S76.1)=c)=>c) _ (by conv=>lhs;reduce)
theorem a5z:aZ Tryz.prog 76 a5j [2] 6:=aZ.of Tryz.f76 Tryz.func76 rfl
def R83:{c:CC // aJ Tryz.prog 83=c}:=⟨_,by conv=>lhs;reduce⟩
def S83:{c:CC // bA Tryz.prog 83 { fs:=false } R83.1 [([1,0],(.f [0,3,6,9,12,1,4,7,10,13,2002,15,2005,2008,2011,2014,16,17,18,19,20,21,22,23,24]))]=c}:=⟨_,by conv=>lhs;reduce⟩
def a5f:CC:=(fun (c:CC) (_:(S83.1)=c)=>c) _ (by conv=>lhs;reduce)
theorem a4T:aX Tryz.prog 83 a5f [.ce 2 64 14 true] 24:=aX.of Tryz.f83 Tryz.func83 rfl ⟨by kernel_rfl,trivial⟩
def a59:{c:CC // aJ Tryz.prog 133=c}:=⟨_,by conv=>lhs;reduce⟩
def a5U:{c:CC // bA Tryz.prog 133 { fs:=false } a59.1 []=c}:=⟨_,by conv=>lhs;reduce⟩
def a4k:CC:=(fun (c:CC) (_:(a5U.1)=c)=>c) _ (by conv=>lhs;reduce)
theorem a5b:aZ Tryz.prog 133 a4k [3] 8:=aZ.of Tryz.f133 Tryz.func133 rfl
def a55:{c:CC // aJ Tryz.prog 138=c}:=⟨_,by conv=>lhs;reduce⟩
def a5S:{c:CC // bA Tryz.prog 138 { fs:=false } a55.1 []=c}:=⟨_,by conv=>lhs;reduce⟩
def a4g:CC:=(fun (c:CC) (_:(a5S.1)=c)=>c) _ (by conv=>lhs;reduce)
theorem a47:aZ Tryz.prog 138 a4g [2] 11:=aZ.of Tryz.f138 Tryz.func138 rfl
end Go.Proofs.YtakemdamegfcfaaGreat
