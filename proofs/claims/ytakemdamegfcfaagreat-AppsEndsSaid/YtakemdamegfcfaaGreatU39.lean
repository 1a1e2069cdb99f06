/- A part of a proof: what functions of the program compute. No condition. -/
import Derived.Test.YtakemdamegfcfaaGreatU37
import Derived.Test.YtakemdamegfcfaaGreatU38
import Derived.Test.YtakemdamegfcfaaGreatT12
import Derived.Test.YtakemdamegfcfaaGreatProg
import Derived.KernelRfl
import Derived.Test.YtakemdamegfcfaaGreatT6
import Derived.Test.YtakemdamegfcfaaGreatT10
import Derived.Test.YtakemdamegfcfaaGreatT36
set_option linter.unusedSimpArgs false
set_option linter.unusedVariables false
set_option maxHeartbeats 16000000
set_option maxRecDepth 100000
namespace Go.Proofs.YtakemdamegfcfaaGreat
open Go Go.Ab
theorem a3R (s:List UInt8) (c:UInt8) (hs:s.length<2^62):aT Tryz.prog 207 [.str s,.int .u8 c.toNat] (.int .i64 (lW c s s.length)):=by
 unfold aT
 refine aK a4Y (by simp) ?_
 unfold a37
 refine Wa ?_
 unfold a2R
 refine Wa ?_
 refine aF (σ:=Nat) (fun n=>⟨[(0,.str s),(1,.int .u8 c.toNat),(5,.int .i64 ((n:Int)-1))],[]⟩) (fun n=>n<=s.length/\lW c s s.length=lW c s n) (fun n=>n) s.length (.inl rfl) ⟨by omega,rfl⟩ ?_
 rintro n ⟨hn,hl⟩
 unfold a2Q
 cases n with
 | zero =>
   simp -implicitDefEqProofs(disch:=first|decide|omega)only[↓aA,aC,aB,simprocAttr,x8]
   rw [hl]
   rfl
 | succ n =>
   have e:((n+1:Nat):Int)-1=n:=by omega
   rw [e]
   simp -implicitDefEqProofs(disch:=first|decide|omega)only[↓aA,aC,aB,simprocAttr,x8]
   refine ⟨by omega,?_⟩
   by_cases hc:s.getD n 0=c
   · have hc2:((s.getD n 0).toNat:Int)=(c.toNat:Int):=by rw [hc]
     simp -implicitDefEqProofs(disch:=first|decide|omega)only[↓aA,aC,aB,simprocAttr,x8]
     refine ⟨by omega,?_⟩
     rw [hl]
     unfold lW
     rw [if_pos hc]
   · have hc2:¬ ((s.getD n 0).toNat:Int)=(c.toNat:Int):=fun h=>hc (aUc.1 h)
     simp -implicitDefEqProofs(disch:=first|decide|omega)only[↓aA,aC,aB,simprocAttr,x8]
     refine ⟨by omega,n,.inl rfl,⟨by omega,?_⟩,by omega⟩
     rw [hl]
     conv=>lhs;unfold lW
     rw [if_neg hc]
theorem a3S (s:List UInt8) (hs:s.length<2^62):aT Tryz.prog 186 [.str s,.str [46]] (.int .i64 (wO s)):=by
 unfold aT
 refine aK a40 (by simp) ?_
 unfold a39
 refine Wa ?_
 refine aE (aI.of (aM:=false) (a3R s dot hs) (.refl rfl) rfl (by simp)) ?_
 refine Wa ?_
 rfl
theorem a22 (s:List UInt8) (hs:s.length<2^62):aT Tryz.prog 164 [.str s] (.tup [.str (dH s).1,.bool (dH s).2]):=by
 unfold aT
 refine aK a44 (by simp) ?_
 unfold a4d
 refine Wa ?_
 refine aE (aI.of (aM:=false) (a3S s hs) (.refl rfl) rfl (by simp)) ?_
 have hr:=zA s
 unfold dH
 by_cases h:wO s<0
 · rw [if_pos h]
   exact Ta
 · rw [if_neg h]
   simp -implicitDefEqProofs(disch:=first|decide|omega)only[↓aA,aC,aB,simprocAttr,x8]
   repeat' first|omega|apply And.intro
def qP (p:List UInt8) (q:Queue):Bool:=q.path==p
theorem a4P (x:Queue) (p:List UInt8):aW Tryz.prog 163 [QUE x,.ref 0 0 0] [.box [.str p]] fun y G=>y= .bool (qP p x)/\G=[.box [.str p]]:=by
 have key:aW Tryz.prog 163 [QUE x,.ref 0 0 0] [.box [.str p]] fun y G=>y= .bool (qP p x)/\∃ o,G=[.box [.str p],o]:=by
  refine zL a45 (by simp) rfl ?_
  unfold a4e
  simp -implicitDefEqProofs(disch:=first|decide|omega)only[↓aA,aC,aB,simprocAttr,x8,bW]
  exact ⟨rfl,_,rfl⟩
 refine key.sub ?_
 rintro y G ⟨rfl,o,rfl⟩
 refine ⟨_,_,?_,rfl,rfl⟩
 (refine Sub.ofL [some 0] rfl (by simp) (by decide) (by simp [cQ,AO.ro,AV.ro,AV.roL,names,AO.empty,SB,U8,SI,I64,STR]<;>(try and_intros)<;>rfl) (by simp [AO.bo,AV.bo,AV.boL,names]<;>(try and_intros)<;>rfl) ?_<;>(try simp only [List.map_cons,List.map_nil,cV,AV.ro,AV.roL,AV.bo,AV.boL,names,bK,bE,Nat.reduceBEq,List.getD_cons_zero,List.getD_cons_succ,List.getD_nil,and_true,true_and,Nat.reduceLT,List.length_cons,List.length_nil,Nat.reduceAdd,decide_true,Option.isSome_some,Bool.true_or,Bool.and_self,Option.isSome_none,Bool.false_or,beq_self_eq_true,bL,bM])<;>(try and_intros)<;>(first|done|rfl|exact .inl rfl|exact .inr ⟨rfl,_,_,rfl⟩|(simp;done)|(simp;omega)|(refine .inl ?_;simp;done)|(refine .inl ?_;simp;omega)))
def FNq:AV:=.fn (.func 163) [] [.ref 0 0 0]
set_option maxHeartbeats 1000000 in
theorem a5c (t:Bool) (p:List UInt8) (l:List Queue) (hl:l.length<2^63):aW Tryz.prog 162 [.sl t 3 (l.map QUE),FNq] [.box [.str p]] fun y G=>y= .int .i64 (uK (qP p) l)/\G=[.box [.str p]]:=by
 refine zL a46 (by simp) rfl ?_
 unfold a4f FNq
 refine Wa ?_
 unfold a2V
 refine Wa ?_
 refine aF (σ:=Nat) (fun i=>⟨[(0,.sl t 3 (l.map QUE)),(1,.fn (.func 163) [] [.ref 0 0 0]),(7,.int .i64 (l.length:Int)),(8,.int .i64 (i:Int))],[.box [.str p]]⟩)
  (fun i=>i<=l.length/\∀ j,(h:j<i)->(h2:j<l.length)->qP p l[j]=false) (fun i=>l.length-i) 0 (.inl rfl) ⟨by omega,fun j h=>by omega⟩ ?_
 rintro i ⟨hii,hn⟩
 unfold a2U
 by_cases hil:i<l.length
 · have hg:l.getD i default=l[i]:=by simp [hil]
   simp -implicitDefEqProofs(disch:=first|decide|omega)only[↓aA,aC,aB,simprocAttr,x8,bW]
   refine ⟨by omega,by omega,?_⟩
   refine (a4P _ p).to ?_
   rintro y G ⟨rfl,rfl⟩
   rw [hg]
   cases hp:qP p l[i]
   · refine Wa ?_
     refine ⟨i+1,.inl rfl,⟨by omega,fun j h h2=>?_⟩,by omega⟩
     by_cases hj:j=i
     · subst hj;exact hp
     · exact hn j (by omega) h2
   · refine Wa ?_
     rw [aSq hil (fun j hj=>hn j hj (by omega)) hp]
 · have:i=l.length:=by omega
   subst this
   refine Wa ?_
   rw [aSp fun j hj=>hn j hj hj]
def CNF (tq:Bool) (ls:List (List UInt8)) (qs:List Queue):AV:=.agg [.sl false 1 (ls.map AV.str),.sl tq 3 (qs.map QUE)]
set_option maxHeartbeats 1000000 in
theorem a4q (tq:Bool) (ls:List (List UInt8)) (qs:List Queue) (p:List UInt8) (hl:qs.length<2^63) (i:Nat) (hi:i<qs.length) (h:uK (qP p) qs=(i:Int)) (hc:qs[i].caps.length<=2^36) :
 aT Tryz.prog 134 [CNF tq ls qs,.str p] (.tup [QUE qs[i],.bool true]):=by
 unfold aT
 have hg:qs.getD i default=qs[i]:=by simp [hi]
 refine aO a3l (by simp) ?_
 unfold a3D CNF
 refine Wa ?_
 refine ((a5c tq p qs hl).fr [1]).to ?_
 rintro y G ⟨y0,Hr,⟨rfl,rfl⟩,rfl,rfl⟩
 rw [h]
 simp -implicitDefEqProofs(disch:=first|decide|omega)only[↓aA,aC,aB,simprocAttr,x8,AV.ren,AO.ren,spl,j8,bW,hg,List.append_nil]
 refine ⟨by omega,by omega,?_⟩
 refine aE (aI.of (aM:=false) (aXf _ (by omega)) (.refl rfl) rfl (by simp)) ?_
 simp -implicitDefEqProofs(disch:=first|decide|omega)only[↓aA,aC,aB,simprocAttr,x8,bW,List.append_nil]
def NOQ:AV:=.agg [.str [],.aD,.int .i64 0]
set_option maxHeartbeats 1000000 in
theorem a3F (tq:Bool) (ls:List (List UInt8)) (qs:List Queue) (p:List UInt8) (hl:qs.length<2^63) (h:uK (qP p) qs= -1) :
 aT Tryz.prog 134 [CNF tq ls qs,.str p] (.tup [NOQ,.bool false]):=by
 unfold aT
 refine aO a3l (by simp) ?_
 unfold a3D CNF NOQ
 refine Wa ?_
 refine ((a5c tq p qs hl).fr [1]).to ?_
 rintro y G ⟨y0,Hr,⟨rfl,rfl⟩,rfl,rfl⟩
 rw [h]
 simp -implicitDefEqProofs(disch:=first|decide|omega)only[↓aA,aC,aB,simprocAttr,x8,AV.ren,AO.ren,spl,j8,bB]
def a4r (p:List UInt8) (q:Queue):Bool:=(dH q.path).2&&(dH q.path).1==p
def hN (p:List UInt8) (qs:List Queue):List (List UInt8):=(qs.filter (a4r p)).map Queue.path
set_option maxHeartbeats 2000000 in
theorem a27 (tq:Bool) (ls:List (List UInt8)) (qs:List Queue) (p:List UInt8) (hl:qs.length<=2^40) (hq:∀ q∈qs,QT q) :
 aT Tryz.prog 135 [CNF tq ls qs,.str p] (.sl false 1 ((hN p qs).map AV.str)):=by
 refine aT.wk3 (aK a5a (by simp) ?_)
 unfold a4j CNF
 refine Wa ?_
 unfold a2Z
 refine Wa ?_
 refine aF (σ:=Nat) (fun i=>⟨[(1,.str p),(5,.own 1 1 0 (hN p (qs.take i)).length),(11,.sl tq 3 (qs.map QUE)),(12,.int .i64 (qs.length:Int)),(13,.int .i64 (i:Int))],[.box [.sl false 1 (ls.map AV.str),.sl tq 3 (qs.map QUE)],.arr 1 ((hN p (qs.take i)).map AV.str)]⟩)
  (fun i=>i<=qs.length) (fun i=>qs.length-i) 0 ?_ (by omega) ?_
 · simp only [List.take_zero,hN,List.filter_nil,List.map_nil,List.length_nil]
   exact Sub.ofS [some 0,none]
 intro i hii
 unfold a2Y
 have hlen:(hN p (qs.take i)).length<=i:=by
  unfold hN
  rw [List.length_map]
  exact Nat.le_trans (List.length_filter_le _ _) (by simp;omega)
 by_cases hil:i<qs.length
 · have hg:qs.getD i default=qs[i]:=by simp [hil]
   have hx:=hq _ (List.getElem_mem hil)
   have e1:hN p (qs.take (i+1))=hN p (qs.take i)++(if a4r p qs[i] then [qs[i].path] else []):=by
    unfold hN
    rw [List.take_succ_eq_append_getElem hil,List.filter_append,List.map_append]
    congr 1
    simp only [List.filter_cons,List.filter_nil]
    split<;>rfl
   generalize hN p (qs.take i)=m at e1 hlen
   have hk:a4r p qs[i]=((dH qs[i].path).2&&(dH qs[i].path).1==p):=rfl
   have ha:=a22 qs[i].path (by have:=hx.path;omega)
   generalize dH qs[i].path=ab at hk ha
   obtain ⟨up,has⟩:=ab
   simp only at hk ha
   simp -implicitDefEqProofs(disch:=first|decide|omega)only[↓aA,aC,aB,simprocAttr,x8,bW,hg,List.append_nil]
   refine ⟨by omega,by omega,?_⟩
   refine aE (aI.of (aM:=false) (ha) (.refl rfl) rfl (by simp)) ?_
   cases has with
   | false =>
     rw [Bool.false_and] at hk
     rw [hk] at e1
     simp only [Bool.false_eq_true,if_false,List.append_nil] at e1
     simp -implicitDefEqProofs(disch:=first|decide|omega)only[↓aA,aC,aB,simprocAttr,x8]
     refine ⟨i+1,?_,by omega,by omega⟩
     rw [e1]
     exact Sub.ofS [some 0,some 1]
   | true =>
     rw [Bool.true_and] at hk
     cases hb:(up==p) with
     | false =>
       rw [hb] at hk
       rw [hk] at e1
       simp only [Bool.false_eq_true,if_false,List.append_nil] at e1
       simp -implicitDefEqProofs(disch:=first|decide|omega)only[↓aA,aC,aB,simprocAttr,x8,hb]
       refine ⟨i+1,?_,by omega,by omega⟩
       rw [e1]
       exact Sub.ofS [some 0,some 1]
     | true =>
       rw [hb] at hk
       rw [hk] at e1
       simp only [if_true] at e1
       simp -implicitDefEqProofs(disch:=first|decide|omega)only[↓aA,aC,aB,simprocAttr,x8,hb,bW]
       refine ⟨by omega,i+1,?_,by omega,by omega⟩
       rw [e1]
       simp only [List.map_append,List.map_cons,List.map_nil,List.length_append,List.length_cons,List.length_nil]
       exact Sub.ofS [some 0,some 4]
 · have:i=qs.length:=by omega
   subst this
   rw [List.take_length]
   refine Wa ?_
   exact .inl (.inl (.inl rfl))
theorem a2J {α:Type} (p:α->Bool) (l:List α):(uK p l= -1/\l.any p=false)∨∃ i:Nat,∃ h:i<l.length,uK p l=(i:Int)/\l.any p=true:=by
 rcases a1X p l with ⟨h1,h2⟩|⟨i,hi,h1,h2,h3⟩
 · exact .inl ⟨h1,List.any_eq_false.2 fun x hx=>by rw [h2 x hx];simp⟩
 · exact .inr ⟨i,hi,h1,List.any_eq_true.2 ⟨_,List.getElem_mem hi,h2⟩⟩
def a3Z (p:List UInt8) (qs:List Queue):Bool:=qs.any (qP p)&&(hN p qs).isEmpty
set_option maxHeartbeats 2000000 in
theorem a4R (tq:Bool) (ls:List (List UInt8)) (qs:List Queue) (p:List UInt8) (hl:qs.length<=2^40) (hq:∀ q∈qs,QT q) :
 aT Tryz.prog 74 [CNF tq ls qs,.str p] (.bool (a3Z p qs)):=by
 unfold aT
 refine aK a5A (by simp) ?_
 have hf:=fun h=>a3F tq ls qs p (by omega) h
 have hf2:=fun i hi h hc=>a4q tq ls qs p (by omega) i hi h hc
 have hk:=a27 tq ls qs p hl hq
 unfold a3Z
 unfold a5k
 unfold CNF at hf hf2 hk ⊢
 refine Wa ?_
 rcases a2J (qP p) qs with ⟨h1,h2⟩|⟨i,hi,h1,h2⟩
 · refine aE (aI.of (aM:=false) (hf h1) (.refl rfl) rfl (by simp)) ?_
   unfold NOQ
   refine Wa ?_
   rw [h2]
   rfl
 · have hx:=hq _ (List.getElem_mem hi)
   refine aE (aI.of (aM:=false) (hf2 i hi h1 (by have:=hx.caps;omega)) (.refl rfl) rfl (by simp)) ?_
   rw [h2]
   simp -implicitDefEqProofs(disch:=first|decide|omega)only[↓aA,aC,aB,simprocAttr,x8,bW,List.append_nil]
   refine aE (aI.of (aM:=false) (hk) (.refl rfl) rfl (by simp)) ?_
   generalize hN p qs=m
   refine Wa ?_
   cases m with
   | nil=>rfl
   | cons x m=>simp;omega
abbrev ow (d:Nat) (c:CO):aP:=⟨some d,c,none⟩
abbrev nw (c:CO):aP:=⟨none,c,none⟩
abbrev tw (k:Nat):Operand:=.tmp k
abbrev mw (k:Nat):CO:=.mv (.tmp k)
def R36:{c:CC // aJ Tryz.prog 36=c}:=⟨_,by conv=>lhs;reduce⟩
def S36:{c:CC // bA Tryz.prog 36 { fz:=[(true,41,[41]),(true,48,[48]),(true,54,[54]),(true,62,[62]),(true,99,[99])],fs:=false } R36.1 []=c}:=⟨_,by conv=>lhs;reduce⟩
def aWT:CC:=(fun (c:CC) (_:(S36.1.aV [1,1,1,1])=c)=>c) _ (by conv=>lhs;reduce)
def a6D:CC:=(fun (c:CC->CC) (_:(fun a0=>(S36.1).aU [1,1,1,1] a0)=c)=>c) _ (by conv=>lhs;reduce) aWT
theorem a6B:aX Tryz.prog 36 a6D [.ce 4 41 10 true,.tm 5] 100:=aX.of Tryz.f36 Tryz.func36 rfl ⟨by kernel_rfl,trivial⟩
def a5i:CC:=(fun (c:CC) (_:((.seq (.reg [ow 6 (.mv (.const (.slice none 0 0)))] false [] (some [0,1,2])) (.seq (.reg [ow 8 (mw 0),ow 9 (mw 1),ow 10 (mw 2),ow 11 (mw 0),ow 12 (.lenl (tw 11)),ow 13 (.s3 14 (tw 8) (some (tw 9)) (some (tw 10)) (tw 12))] false [] (some [0,1,2])) (.seq (.seq (.reg [ow 14 (mw 1),ow 15 (mw 2),ow 16 (.bin .eql (tw 14) (tw 15))] false [] (some [0,1,2,16])) (.cond (tw 16) (.seq (.reg [ow 17 (mw 0),ow 6 (mw 17)] false [] (some [6])) .ret) .skip)) (.seq (.reg [ow 18 (mw 0),ow 19 (.lenl (tw 18)),ow 7 (mw 19)] false [] (some [0,1,2,7])) (.seq (.reg [ow 20 (mw 0),ow 21 (mw 1),ow 22 (.slc 14 (tw 20) none (some (tw 21))),ow 23 (mw 0),ow 24 (mw 2),ow 25 (.slc 14 (tw 23) (some (tw 24)) none),ow 26 (.apin 14 200 (tw 22) (tw 25)),ow 0 (mw 26)] true [] (some [0,7])) (.seq (.reg [ow 27 (mw 0),ow 28 (mw 0),ow 29 (.lenl (tw 28)),ow 30 (mw 7),ow 31 (.sle 14 (tw 27) (some (tw 29)) (some (tw 30))),nw (.clr 14 (.agg [(.int .i64 0),(.int .i64 0),(.str []),(.int .i64 0),(.int .i64 0),(.int .i64 0),(.int .i64 0),.aD,(.int .i64 0),(.int .i64 0),.aD,.aD,.aD,.aD]) (tw 31))] false [] (some [0])) (.seq (.reg [ow 32 (mw 0),ow 6 (mw 32)] false [] (some [6])) .ret))))))))=c)=>c) _ (by conv=>lhs;reduce)
theorem a5y:aZ Tryz.prog 77 a5i [6] 33:=aZ.of Tryz.f77 Tryz.func77 rfl
def R79:{c:CC // aJ Tryz.prog 79=c}:=⟨_,by conv=>lhs;reduce⟩
def S79:{c:CC // bA Tryz.prog 79 { gc:=4,fs:=false } R79.1 []=c}:=⟨_,by conv=>lhs;reduce⟩
def a3q:CC:=(fun (c:CC) (_:(S79.1.aV [1,1,1,0,0,0])=c)=>c) _ (by conv=>lhs;reduce)
def a3r:CC:=(fun (c:CC->CC) (_:(fun a0=>(S79.1.aV [1,1,1,0]).aU [0,0] a0)=c)=>c) _ (by conv=>lhs;reduce) a3q
def a5g:CC:=(fun (c:CC->CC) (_:(fun a0=>(S79.1).aU [1,1,1,0] a0)=c)=>c) _ (by conv=>lhs;reduce) a3r
theorem a4U:aX Tryz.prog 79 a5g [.ce 4 41 10 true] 45:=aX.of Tryz.f79 Tryz.func79 rfl ⟨by kernel_rfl,trivial⟩
def a4h:CC:=(fun (c:CC) (_:((.seq (.reg [ow 6 (.mv (.const (.slice none 0 0)))] false [] (some [0,1,2])) (.seq (.reg [ow 10 (mw 0),ow 11 (mw 1),ow 12 (.slc 14 (tw 10) (some (tw 11)) none)] false [] (some [0,1,2])) (.seq (.reg [ow 13 (mw 2),ow 14 (.lenl (tw 13)),ow 7 (mw 14)] false [] (some [0,1,2,7])) (.seq (.seq (.reg [ow 15 (mw 7),ow 16 (.bin .eql (tw 15) (.const (.int .i64 0)))] false [] (some [0,1,2,7,16])) (.cond (tw 16) (.seq (.reg [ow 17 (mw 0),ow 6 (mw 17)] false [6] (some [6])) .ret) .skip)) (.seq (.reg [ow 18 (mw 0),ow 19 (.lenl (tw 18)),ow 8 (mw 19)] false [] (some [0,1,2,7,8])) (.seq (.seq (.reg [ow 20 (mw 1),ow 21 (mw 8),ow 22 (.bin .eql (tw 20) (tw 21))] false [] (some [0,1,2,7,8,22])) (.cond (tw 22) (.seq (.reg [ow 23 (mw 0),ow 24 (mw 2),ow 25 (.app 14 200 (tw 23) (tw 24)),ow 6 (mw 25)] false [6] (some [6])) .ret) .skip)) (.seq (.seq (.reg [ow 26 (mw 8),ow 27 (mw 7),ow 28 (.bin .add (tw 26) (tw 27)),ow 29 (.mvx (tw 0)),ow 30 (.capl (tw 29)),ow 31 (.bin .gtr (tw 28) (tw 30))] false [] (some [0,1,2,7,8,29,31])) (.cond (tw 31) (.seq (.reg [ow 32 (mw 0),ow 33 (mw 1),ow 34 (.slc 14 (tw 32) none (some (tw 33))),ow 35 (mw 8),ow 36 (mw 7),ow 37 (.bin .add (tw 35) (tw 36)),ow 38 (mw 1),ow 39 (.bin .sub (tw 37) (tw 38)),ow 40 (.agz 14 200 (.agg [(.int .i64 0),(.int .i64 0),(.str []),(.int .i64 0),(.int .i64 0),(.int .i64 0),(.int .i64 0),.aD,(.int .i64 0),(.int .i64 0),.aD,.aD,.aD,.aD]) (tw 34) (tw 39) (tw 29)),ow 9 (mw 40)] false [] (some [0,1,2,7,9])) (.seq (.reg [ow 41 (mw 9),ow 42 (mw 1),ow 43 (.slc 14 (tw 41) (some (tw 42)) none),ow 44 (mw 2),ow 45 (.cpy 14 (tw 43) (tw 44))] false [] (some [0,1,7,9])) (.seq (.reg [ow 46 (mw 9),ow 47 (mw 1),ow 48 (mw 7),ow 49 (.bin .add (tw 47) (tw 48)),ow 50 (.slc 14 (tw 46) (some (tw 49)) none),ow 51 (mw 0),ow 52 (mw 1),ow 53 (.slc 14 (tw 51) (some (tw 52)) none),ow 54 (.cpy 14 (tw 50) (tw 53))] true [] (some [9])) (.seq (.reg [ow 55 (mw 9),ow 6 (mw 55)] false [6] (some [6])) .ret)))) .skip)) (.seq (.reg [ow 56 (mw 0),ow 57 (mw 8),ow 58 (mw 7),ow 59 (.bin .add (tw 57) (tw 58)),ow 60 (.sle 14 (tw 56) none (some (tw 59))),ow 0 (mw 60)] false [] (some [0,1,2,7,8])) (.seq (.seq (.reg [ow 61 (mw 2),ow 62 (mw 0),ow 63 (mw 1),ow 64 (mw 7),ow 65 (.bin .add (tw 63) (tw 64)),ow 66 (.slc 14 (tw 62) (some (tw 65)) none),ow 67 (.xcl 169 [(tw 61),(tw 66)]),ow 68 (.un .not (tw 67))] false [] (some [0,1,2,7,8,68])) (.cond (tw 68) (.seq (.reg [ow 69 (mw 0),ow 70 (mw 1),ow 71 (mw 7),ow 72 (.bin .add (tw 70) (tw 71)),ow 73 (.slc 14 (tw 69) (some (tw 72)) none),ow 74 (mw 0),ow 75 (mw 1),ow 76 (.slc 14 (tw 74) (some (tw 75)) none),ow 77 (.cpy 14 (tw 73) (tw 76))] true [] (some [0,1,2])) (.seq (.reg [ow 78 (mw 0),ow 79 (mw 1),ow 80 (.slc 14 (tw 78) (some (tw 79)) none),ow 81 (mw 2),ow 82 (.cpy 14 (tw 80) (tw 81))] false [] (some [0])) (.seq (.reg [ow 83 (mw 0),ow 6 (mw 83)] false [6] (some [6])) .ret))) .skip)) (.seq (.reg [ow 84 (mw 0),ow 85 (mw 8),ow 86 (.slc 14 (tw 84) (some (tw 85)) none),ow 87 (mw 2),ow 88 (.cpy 14 (tw 86) (tw 87))] false [] (some [0,1,7])) (.seq (.reg [ow 89 (mw 0),ow 90 (mw 1),ow 91 (.slc 14 (tw 89) (some (tw 90)) none),ow 92 (mw 7),ow 93 (.call 170 [(tw 91),(tw 92)])] false [] (some [0])) (.seq (.reg [ow 94 (mw 0),ow 6 (mw 94)] false [6] (some [6])) .ret)))))))))))))=c)=>c) _ (by conv=>lhs;reduce)
theorem a48:aZ Tryz.prog 137 a4h [6] 95:=aZ.of Tryz.f137 Tryz.func137 rfl
theorem a4s:aW Tryz.prog 166 [.aD] [] fun y G=>y= .own 0 8 0 0/\G=[.arr 8 []]:=by
 refine aK a42 (by simp) ?_
 unfold a4b
 exact Ta
def a20:AV:=.fn (.func 167) [] [.ref 0 0 0]
theorem a4B (a:Ask):aW Tryz.prog 187 [.own 1 8 0 0,a20] [.box (fC a),.arr 8 []] fun y G=>y= .int .i64 (-1)/\G=[.box (fC a),.arr 8 []]:=by
 refine zL a4Z (by simp) rfl ?_
 unfold a38 a20
 refine Wa ?_
 unfold a2T
 refine Wa ?_
 refine aF (σ:=Unit) (fun _=>⟨[(0,.own 1 8 0 0),(1,.fn (.func 167) [] [.ref 0 0 0]),(7,.int .i64 0),(8,.int .i64 0)],[.box (fC a),.arr 8 []]⟩) (fun _=>True) (fun _=>0) () (.inl rfl) trivial ?_
 intro _ _
 unfold a2S
 exact Ta
theorem a4C (a:Ask):aW Tryz.prog 165 [.own 1 8 0 0,a20] [.box (fC a),.arr 8 []] fun y G=>y= .own 1 8 0 0/\G=[.box (fC a),.arr 8 []]:=by
 refine zL a43 (by simp) rfl ?_
 unfold a4c a20
 refine Wa ?_
 refine (a4B a).to ?_
 rintro y G ⟨rfl,rfl⟩
 exact Ta
theorem a4A (x:Ask):aW Tryz.prog 168 [.own 0 8 0 0,.int .i64 0,.own 1 8 0 1] [.arr 8 [],.arr 8 [ASK x]] fun y G=>y= .sl false 8 [ASK x]:=by
 refine zL a41 (by simp) rfl ?_
 unfold a4a
 exact Ta
theorem a4n (a:Ask) (h:a.count≠0):aT Tryz.prog 136 [.aD,ASK a] (.tup [.sl false 8 [ASK { a with missed:=0 }],.int .i64 0]):=by
 unfold aT
 refine aK a49 (by simp) ?_
 unfold a4i
 simp -implicitDefEqProofs(disch:=first|decide|omega)only[↓aA,aC,aB,simprocAttr,x8,bF]
 refine nI a4s rfl rfl ?_
 rintro y G ⟨rfl,rfl⟩
 simp -implicitDefEqProofs(disch:=first|decide|omega)only[↓aA,aC,aB,simprocAttr,x8,AV.ren,AO.ren,up]
 refine (a4C a).to ?_
 rintro y G ⟨rfl,rfl⟩
 simp -implicitDefEqProofs(disch:=first|decide|omega)only[↓aA,aC,aB,simprocAttr,x8,bF]
 unfold a2X
 refine Wa ?_
 generalize hx:({ prio:=a.prio,label:=a.label,mem:=a.mem,cores:=a.cores,count:=a.count,node:=a.node,rack:=a.rack,missed:=0 }:Ask)=x
 refine aF (σ:=Unit) (fun _=>⟨[(3,.ref 0 0 0),(6,.own 1 8 0 0),(7,.int .i64 0)],[.box (fC x),.arr 8 []]⟩) (fun _=>True) (fun _=>0) () (.inl rfl) trivial ?_
 intro _ _
 unfold a2W
 simp -implicitDefEqProofs(disch:=first|decide|omega)only[↓aA,aC,aB,simprocAttr,x8,bF,List.append_nil]
 refine ((a4A x).fr [1,2]).to ?_
 rintro y G ⟨y0,Hr,rfl,rfl,rfl⟩
 simp -implicitDefEqProofs(disch:=first|decide|omega)only[↓aA,aC,aB,simprocAttr,x8,AV.ren]
theorem a1T (a:App):aT Tryz.prog 78 [APP a] (.sl false 8 [ASK ⟨0,0,a.mem,a.cores,1,-1,-1,0⟩]):=by
 unfold aT
 refine aK a5x (by simp) ?_
 unfold a5h
 have r:=a4n ⟨0,0,a.mem,a.cores,1,-1,-1,0⟩ (by simp)
 simp only at r
 simp -implicitDefEqProofs(disch:=first|decide|omega)only[↓aA,aC,aB,simprocAttr,x8,a9,bB]
 refine aE (aI.of (aM:=false) (r) (.refl rfl) rfl (by simp)) ?_
 exact Ta
def a2k (k:Nat) (x:App) (l:List App):List App:=l.take k++x :: l.drop k
set_option maxHeartbeats 4000000 in
theorem a3T (l:List App) (Z:List AV) (x:App) (k:Nat) (hk:k<=l.length) (hl:l.length+Z.length<=2^36):aW Tryz.prog 137 [.own 0 14 0 l.length,.int .i64 k,.own 1 14 0 1] [.arr 14 (l.map APP++Z),.arr 14 [APP x]] fun y G=>y= .sl false 14 ((a2k k x l).map APP):=by
 refine zL a48 (by simp) rfl ?_
 unfold a4h
 have hle:l.length<=l.length+Z.length:=by omega
 have htk:(l.map APP++Z).take l.length=l.map APP:=by rw [List.take_left'];simp
 by_cases hkl:k=l.length
 · subst hkl
   have e:a2k l.length x l=l++[x]:=by simp [a2k]
   simp -implicitDefEqProofs(disch:=first|decide|omega)only[↓aA,aC,aB,simprocAttr,x8,kZ,hle,htk]
   refine ⟨by omega,⟨by omega,by omega⟩,?_⟩
   rw [e,List.take_of_length_le (by simp),List.map_append]
   rfl
 · have hne:¬ ((k:Int)=(l.length:Int)):=by omega
   have ht1:((l.length:Int)+1).toNat=l.length+1:=by omega
   have ht2:((k:Int)+1).toNat=k+1:=by omega
   have ht3:((l.length:Int)+1-(k:Int)).toNat=l.length+1-k:=by omega
   simp -implicitDefEqProofs(disch:=first|decide|omega)only[↓aA,aC,aB,simprocAttr,x8,kZ,hle,htk]
   refine ⟨by omega,by omega,fun c hc hcz=>?_⟩
   have hwl:(Z++List.replicate (c-(l.length+Z.length)) (lZ 14)).length=Z.length+(c-(l.length+Z.length)):=by simp
   rw [List.append_assoc]
   generalize Z++List.replicate (c-(l.length+Z.length)) (lZ 14)=W at hwl ⊢
   have hkw:k<=l.length+W.length:=by omega
   have htk2:(l.map APP++W).take k=(l.take k).map APP:=by rw [List.take_append_of_le_length (by simp;omega),List.map_take]
   have h1:k+(l.length+1-k)=l.length+1:=by omega
   have h2:k+(l.length-k)=l.length:=by omega
   have h5:l.length+1-(k+1)=l.length-k:=by omega
   have h6:l.length<=l.length+W.length:=by omega
   have m1:min k l.length=k:=by omega
   have m2:min 1 (l.length+1-k)=1:=by omega
   have m3:min k (l.length+W.length)=k:=by omega
   have h3:((l.map APP++W).drop k).take (l.length-k)=(l.drop k).map APP:=by rw [List.drop_append_of_le_length (by simp;omega),List.take_append_of_le_length (by simp),List.take_of_length_le (by simp),List.map_drop]
   have lk:((l.take k).map APP).length=k:=by simp;omega
   have r1:∀ z:AV,((l.take k).map APP++List.replicate (l.length+1-k) z).take k=(l.take k).map APP:=fun z=>List.take_left' lk
   have r2:[APP x].take (l.length+1-k)=[APP x]:=List.take_of_length_le (by simp;omega)
   have r4:∀ z:AV,((l.take k).map APP++List.replicate (l.length+1-k) z).drop (k+1)=List.replicate (l.length-k) z:=fun z=>by
    rw [List.drop_append,lk,List.drop_eq_nil_of_le (by omega),List.nil_append,List.drop_replicate]
    congr 1
    omega
   have r6:∀ z:List AV,((l.take k).map APP++[APP x]++z).take (k+1)=(l.take k).map APP++[APP x]:=fun z=>List.take_left' (by rw [List.length_append,lk];rfl)
   have r7:(l.drop k).take (l.length-k)=l.drop k:=List.take_of_length_le (by simp)
   have r8:∀ z:AV,((l.take k).map APP++[APP x]++List.replicate (l.length-k) z).drop (k+1+(l.length-k))=[]:=fun z=>List.drop_eq_nil_of_le (by rw [List.length_append,List.length_append,lk,List.length_replicate];simp)
   have e9:(l.take k).map APP++[APP x]++(l.drop k).map APP=(a2k k x l).map APP:=by simp [a2k]
   by_cases hroom:l.length+1>c
   · have hroom2:(l.length:Int)+1>(c:Int):=by omega
     simp -implicitDefEqProofs(disch:=first|decide|omega)only[↓aA,aC,aB,simprocAttr,x8,kZ,Nat.sub_zero,hkw,htk2,ht1,ht2,ht3,h1,h2,h3,h5,h6,m1,m2,m3,r1,r2,r4,r6,r7,r8,Nat.min_self]
     rw [if_pos (by omega),List.append_nil,e9,List.take_of_length_le (by simp [a2k];omega)]
     repeat' first|rfl|omega|apply And.intro
   · have hroom2:¬ ((l.length:Int)+1>(c:Int)):=by omega
     simp -implicitDefEqProofs(disch:=first|decide|omega)only[↓aA,aC,aB,simprocAttr,x8,kZ,Nat.sub_zero,hkw,htk2,ht1,ht2,ht3]
     refine ⟨by omega,by omega,by omega,by omega,?_⟩
     show zN _ _ _ _ _
     refine rZ (H:=[.arr 14 (l.map APP++W),.arr 14 [APP x]]) (z:=14) (i:=1) (j:=0) (f:=169) (fn:=Tryz.f169) (tS:=36) (tR:=4) (el:=64) (l:=[APP x]) (m:=l.map APP++W) Tryz.func169 (by kernel_rfl) (by kernel_rfl) (by kernel_rfl) (by kernel_rfl) Tryz.underlying36 (by kernel_rfl) (by omega) (by omega) (by omega) rfl rfl ?_
     simp -implicitDefEqProofs(disch:=first|decide|omega)only[↓aA,aC,aB,simprocAttr,x8,kZ,Nat.sub_zero,hkw,htk2,ht1,ht2,ht3,h1,h2,h3,h5,h6,m1,m2,m3,r1,r2,r4,r6,r7,r8,Nat.min_self]
     have h7:l.length+1<=l.length+W.length:=by omega
     have m4:min (l.length-k) (l.length+1-k)=l.length-k:=by omega
     have g1:((l.map APP++W).drop k).take (l.length+1-k)=(l.drop k).map APP++W.take 1:=by
      rw [List.drop_append_of_le_length (by simp;omega),List.take_append,List.take_of_length_le (by simp;omega),List.map_drop,List.length_drop,List.length_map]
      congr 2
      omega
     have g2:((l.drop k).map APP++W.take 1).take (l.length-k)=(l.drop k).map APP:=List.take_left' (by simp)
     simp -implicitDefEqProofs(disch:=first|decide|omega)only[↓aA,aC,aB,simprocAttr,x8,kZ,Nat.sub_zero,hkw,htk2,ht1,ht2,ht3,h1,h2,h3,h5,h6,h7,m1,m2,m3,m4,g1,g2,r1,r2,r4,r6,r7,r8,Nat.min_self]
     refine ⟨by omega,by omega,by omega,by omega,by omega,by omega,by omega,by omega,?_⟩
     rw [if_pos (by omega)]
     have lt:(List.take (k+1) (l.map APP++W)).length=k+1:=by rw [List.length_take,List.length_append,List.length_map];omega
     have q1:∀ R:List AV,List.take k (List.take (k+1) (l.map APP++W)++(l.drop k).map APP++R)=(l.take k).map APP:=fun R=>by
      rw [List.append_assoc,List.take_append_of_le_length (by omega),List.take_take,Nat.min_eq_left (by omega)]
      exact htk2
     have q2:∀ R:List AV,List.drop (k+1) (List.take (k+1) (l.map APP++W)++(l.drop k).map APP++R)=(l.drop k).map APP++R:=fun R=>by
      rw [List.append_assoc,List.drop_left' lt]
     rw [q1,q2,<- List.append_assoc,e9,List.take_left' (by simp [a2k];omega)]
end Go.Proofs.YtakemdamegfcfaaGreat
