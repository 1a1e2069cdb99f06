/- A part of a proof: what functions of the program compute. No condition. -/
import Derived.Test.YtakemdamegfcfaaGreatU37
import Derived.Test.YtakemdamegfcfaaGreatU40
import Derived.Test.YtakemdamegfcfaaGreatU42
import Derived.Test.YtakemdamegfcfaaGreatT26
import Derived.Test.YtakemdamegfcfaaGreatProg
import Derived.KernelRfl
import Derived.Test.YtakemdamegfcfaaGreatT6
import Derived.Test.YtakemdamegfcfaaGreatT10
set_option linter.unusedSimpArgs false
set_option linter.unusedVariables false
set_option maxHeartbeats 16000000
set_option maxRecDepth 100000
namespace Go.Proofs.YtakemdamegfcfaaGreat
open Go Go.Ab
theorem a6p (s:Sta) (hs:NOk s) (id:Int):aT Tryz.prog 39 [.agg (stC s),.int .i64 id] (dT APP gI (dP id s.apps)):=by
 have ha36:=hs.a
 have ca:=a5M s id (by omega)
 refine aT.wk3 (aO a6A (by simp) ?_)
 unfold a6C dT
 unfold stC at *
 refine Wh ?_
 refine aE (aI.of (aM:=false) (ca) (.refl rfl) rfl (by simp)) ?_
 rcases yU (idA id) s.apps with ⟨h1,h2⟩|⟨i,hi,h1,h2,h3,h4⟩
 · have hf:dP id s.apps=none:=h2
   rw [h1,hf]
   refine Wh ?_
   refine .inr ⟨_,_,rfl,rfl,.inr ⟨_,_,rfl,rfl,?_⟩,.inl (.inl rfl),trivial⟩
   simp [gI,bI,WkL,Wk1]
 · have hf:dP id s.apps=some s.apps[i]:=h3
   have hg:s.apps.getD i default=s.apps[i]:=by simp [hi]
   have hx:=hs.at_ _ (List.getElem_mem hi)
   have b1:=hx.asks;have b2:=hx.gl;have b3:=hx.kl;have b4:=hx.tl;have b5:=hx.ll
   unfold wX at b2 b3 b4 b5
   have c2:=a3G s.apps[i] (by omega) (by omega) (by omega) (by omega) (by omega)
   rw [h1,hf]
   simp -implicitDefEqProofs(disch:=first|decide|omega)only[↓aA,aC,aB,simprocAttr,x8,bB,a9,hg,List.append_nil]
   refine ⟨by omega,by omega,?_⟩
   refine aE (aI.of (aM:=false) (c2) (.refl rfl) rfl (by simp)) ?_
   simp -implicitDefEqProofs(disch:=first|decide|omega)only[↓aA,aC,aB,simprocAttr,x8,bB,a9,List.append_nil]
   exact .inl (.inl (.inl rfl))
def a6f (id:Int) (q:List UInt8):App:=⟨id,0,q,0,0,1,1,[],0,0,[],[],[],[]⟩
theorem wkQ (id:Int) (q:List UInt8):Wk3 (.agg [.int .i64 id,.int .i64 0,.str q,.int .i64 0,.int .i64 0,.int .i64 1,.int .i64 1,.aD,.int .i64 0,.int .i64 0,.aD,.aD,.aD,.aD]) (APP (a6f id q)):=by
 refine .inl (.inr ⟨_,_,rfl,rfl,?_⟩)
 simp [bI,a6f,WkL,Wk1]
def knS:Sta:={ s4 with apps:=[hY (a6f 4 nO) 0] }
theorem a6q:aT Tryz.prog 32 [] (.bool true):=by
 have k54:=aHS
 have k36:=a6o s4 aMq (by decide) .nil (fun q hq=>by rw [List.mem_singleton.1 hq];decide) (a6f 4 nO)
 have er:pJ s4 (a6f 4 nO)=(knS,0):=by
  unfold pJ
  rw [if_neg (by decide),if_neg (by decide),if_neg (by decide),if_pos (by decide)]
  rfl
 rw [er] at k36
 have nk:NOk knS:=⟨aSD,by decide,by decide,(fun a ha=>by rw [List.mem_singleton.1 ha];exact ⟨by decide,by decide,by decide,by decide,by decide,by decide⟩),by decide,by decide,by decide⟩
 have k39:=a6p knS nk 4
 have ef:dP 4 knS.apps=some (hY (a6f 4 nO) 0):=rfl
 rw [ef] at k39
 have k38:=a2m (hY (a6f 4 nO) 0)
 have m1:(hY (a6f 4 nO) 0).state=1:=rfl
 have m2:(hY (a6f 4 nO) 0).asks.length=1:=rfl
 have m3:live (hY (a6f 4 nO) 0)=true:=rfl
 rw [m3] at k38
 unfold dT at k39
 simp only [Option.getD_some,Option.isSome_some] at k39
 unfold sH at k36
 generalize hY (a6f 4 nO) 0=m at *
 unfold aT
 refine aK a6K (by simp) ?_
 unfold a6G
 refine Wb ?_
 refine aE (aI.of (aM:=false) (k54) (.refl rfl) rfl (by simp)) ?_
 refine Wb ?_
 refine aE (aI.of (aM:=false) k36 (.cons (.refl rfl) (.cons (Vw.wk (wkQ 4 nO) rfl) .nil)) rfl (by simp)) ?_
 refine Wh ?_
 refine aE (aI.of (aM:=false) (k39) (.refl rfl) rfl (by simp)) ?_
 simp -implicitDefEqProofs(disch:=first|decide|omega)only[↓aA,aC,aB,simprocAttr,x8,bB,a9,m1,m2]
 refine aE (aI.of (aM:=false) (k38) (.refl rfl) rfl (by simp)) ?_
 simp -implicitDefEqProofs(disch:=first|decide|omega)only[↓aA,aC,aB,simprocAttr,x8,bB]
theorem a6u (a n:Int) (h:1<=n) (h2:n<=1000000):aT Tryz.prog 35 [.int .i64 a,.int .i64 n] (.int .i64 (inF a n)):=by
 unfold aT
 refine aK a6I (by simp) ?_
 unfold a6E
 have hr: -n<a.tmod n/\a.tmod n<n:=⟨Int.lt_tmod_of_pos a (by omega),Int.tmod_lt_of_pos a (by omega)⟩
 unfold inF
 generalize hk:a.tmod n=k at hr
 by_cases hc:k<0
 · rw [if_pos hc]
   refine Va hk ?_
   omega
 · rw [if_neg hc]
   refine Va hk ?_
   omega
abbrev oq (d:Nat) (c:CO):aP:=⟨some d,c,none⟩
abbrev pq (d g:Nat) (c:CO):aP:=⟨some d,c,some (g,true)⟩
abbrev nq (c:CO):aP:=⟨none,c,none⟩
abbrev tq (k:Nat):Operand:=.tmp k
abbrev mq (k:Nat):CO:=.mv (.tmp k)
def R48:{c:CC // aJ Tryz.prog 48=c}:=⟨_,by conv=>lhs;reduce⟩
def S48:{c:CC // bA Tryz.prog 48 { fz:=[(true,26,[26]),(true,46,[46])],fs:=false } R48.1 []=c}:=⟨_,by conv=>lhs;reduce⟩
def b9k:CC:=(fun (c:CC) (_:(S48.1)=c)=>c) _ (by conv=>lhs;reduce)
theorem b6x:aX Tryz.prog 48 b9k [.ce 6 41 10 true,.tm 7] 49:=aX.of Tryz.f48 Tryz.func48 rfl ⟨by kernel_rfl,trivial⟩
def b8S:CC:=(fun (c:CC) (_:((.seq (.reg [oq 2 (.bx (tq 0)),oq 3 (.bx (tq 1)),oq 4 (.al [.aD,.aD,.aD,.aD,.aD,.aD,.aD,(.int .i64 0),(.int .i64 0),(.int .i64 0)]),oq 5 (.mv (.const (.slice none 0 0)))] false [] (some [2,3,4])) (.seq (.reg [oq 6 (.al [.aD])] false [] (some [2,3,4,6])) (.seq (.reg [oq 7 (.fad 4 (tq 2)),oq 8 (.ld 1 false (tq 7)),oq 9 (.mkf (.func 140) [] [(tq 3),(tq 6)]),oq 10 (.call 139 [(tq 8),(tq 9)]),oq 11 (.fad 4 (tq 2)),nq (.st 1 (tq 11) (tq 10))] false [] (some [2,3,4,6])) (.seq (.reg [oq 12 (.fad 5 (tq 2)),oq 13 (.ld 1 false (tq 12)),oq 14 (.mkf (.func 142) [] [(tq 3)]),oq 15 (.call 141 [(tq 13),(tq 14)]),oq 16 (.fad 5 (tq 2)),nq (.st 1 (tq 16) (tq 15))] false [] (some [2,4,6])) (.seq (.sch (.pre [oq 17 (.ld 10 true (tq 2))] (.fin [oq 18 (.ld 1 false (tq 6)),nq (.st 10 (tq 4) (tq 17)),oq 5 (mq 18)]) (.fin [nq (.st 10 (tq 4) (tq 17)),oq 18 (.ld 1 false (tq 6)),oq 5 (mq 18)])) [] [] (some [4,5])) .ret))))))=c)=>c) _ (by conv=>lhs;reduce)
theorem b6l:aX Tryz.prog 84 b8S [.ce 4 41 10 true,.tm 5] 19:=aX.of Tryz.f84 Tryz.func84 rfl ⟨by kernel_rfl,trivial⟩
def R85:{c:CC // aJ Tryz.prog 85=c}:=⟨_,by conv=>lhs;reduce⟩
def S85:{c:CC // bA Tryz.prog 85 { gc:=3,fs:=false } R85.1 []=c}:=⟨_,by conv=>lhs;reduce⟩
def bSF:CC:=(fun (c:CC) (_:(S85.1.aV [1,0,1,0,0])=c)=>c) _ (by conv=>lhs;reduce)
def bSG:CC:=(fun (c:CC->CC) (_:(fun a0=>(S85.1.aV [1,0,1]).aU [0,0] a0)=c)=>c) _ (by conv=>lhs;reduce) bSF
def b8R:CC:=(fun (c:CC->CC) (_:(fun a0=>(S85.1).aU [1,0,1] a0)=c)=>c) _ (by conv=>lhs;reduce) bSG
theorem cAE:aZ Tryz.prog 85 b8R [4] 19:=aZ.of Tryz.f85 Tryz.func85 rfl
def bNe:CC:=(fun (c:CC) (_:((.seq (.seq (.reg [oq 16 (mq 6),oq 17 (mq 0),oq 18 (.lenl (tq 17)),oq 19 (.bin .lss (tq 16) (tq 18))] false [] (some [0,1,5,6,19])) (.cond (tq 19) .skip (.exit 0))) (.seq (.block (some [0,1,5,6]) 1 (.seq (.reg [oq 22 (mq 0),oq 23 (mq 6),oq 24 (.iad 9 (tq 22) (tq 23)),oq 25 (.ld 9 true (tq 24)),oq 7 (.al [(.int .i64 0),(.int .i64 0),(.int .i64 0),(.int .i64 0),(.int .i64 0),(.int .i64 0),(.int .i64 0),(.bool false),(.int .i64 0)]),nq (.st 9 (tq 7) (tq 25))] false [] (some [0,1,5,6,7])) (.seq (.reg [oq 26 (mq 1),oq 27 (.ld 9 true (tq 7)),oq 28 (.calv (tq 26) [(tq 27)]),oq 29 (.un .not (tq 28))] false [] (some [0,1,5,6,7,29])) (.cond (tq 29) (.seq (.reg [oq 30 (mq 0),oq 31 (mq 5),oq 32 (.ld 9 true (tq 7)),oq 33 (.iad 9 (tq 30) (tq 31)),nq (.st 9 (tq 33) (tq 32))] false [] (some [0,1,5,6])) (.reg [oq 34 (mq 5),oq 35 (.bin .add (tq 34) (.const (.int .i64 1))),oq 5 (mq 35)] false [] (some [0,1,5,6]))) .skip)))) (.reg [oq 20 (mq 6),oq 21 (.bin .add (tq 20) (.const (.int .i64 1))),oq 6 (mq 21)] false [] (some [0,1,5,6])))))=c)=>c) _ (by conv=>lhs;reduce)
def bNf:CC:=(fun (c:CC->CC) (_:(fun a0=>(.block (some [0,5]) 0 (.loop 3 (some [0,1,5,6]) a0)))=c)=>c) _ (by conv=>lhs;reduce) bNe
def b0g:CC:=(fun (c:CC->CC) (_:(fun a0=>(.seq (.reg [oq 4 (.mv (.const (.slice none 0 0)))] false [] (some [0,1])) (.seq (.reg [oq 8 (mq 0),oq 9 (mq 1),oq 10 (.call 85 [(tq 8),(tq 9)]),oq 5 (mq 10)] false [] (some [0,1,5])) (.seq (.seq (.reg [oq 11 (mq 5),oq 12 (.bin .eql (tq 11) (.const (.int .i64 (-1))))] false [] (some [0,1,5,12])) (.cond (tq 12) (.seq (.reg [oq 13 (mq 0),oq 4 (mq 13)] false [] (some [4])) .ret) .skip)) (.seq (.seq (.reg [oq 14 (mq 5),oq 15 (.bin .add (tq 14) (.const (.int .i64 1))),oq 6 (mq 15)] false [] (some [0,1,5,6])) a0) (.seq (.reg [oq 36 (mq 0),oq 37 (mq 5),oq 38 (.slc 9 (tq 36) (some (tq 37)) none),nq (.clr 9 (.agg [(.int .i64 0),(.int .i64 0),(.int .i64 0),(.int .i64 0),(.int .i64 0),(.int .i64 0),(.int .i64 0),(.bool false),(.int .i64 0)]) (tq 38))] false [] (some [0,5])) (.seq (.reg [oq 39 (mq 0),oq 40 (mq 5),oq 41 (.slc 9 (tq 39) none (some (tq 40))),oq 4 (mq 41)] false [] (some [4])) .ret)))))))=c)=>c) _ (by conv=>lhs;reduce) bNf
theorem b7Q:aZ Tryz.prog 139 b0g [4] 42:=aZ.of Tryz.f139 Tryz.func139 rfl
def cDB:{c:CC // aJ Tryz.prog 140=c}:=⟨_,by conv=>lhs;reduce⟩
def cBQ:{c:CC // bA Tryz.prog 140 { fs:=false } cDB.1 []=c}:=⟨_,by conv=>lhs;reduce⟩
def bH8:CC:=(fun (c:CC) (_:(cBQ.1)=c)=>c) _ (by conv=>lhs;reduce)
theorem bKv:aZ Tryz.prog 140 bH8 [4] 18:=aZ.of Tryz.f140 Tryz.func140 rfl
def bNc:CC:=(fun (c:CC) (_:((.seq (.seq (.reg [oq 16 (mq 6),oq 17 (mq 0),oq 18 (.lenl (tq 17)),oq 19 (.bin .lss (tq 16) (tq 18))] false [] (some [0,1,5,6,19])) (.cond (tq 19) .skip (.exit 0))) (.seq (.block (some [0,1,5,6]) 1 (.seq (.reg [oq 22 (mq 0),oq 23 (mq 6),oq 24 (.iad 3 (tq 22) (tq 23)),oq 25 (.ld 3 true (tq 24)),oq 7 (.al [(.int .i64 0),(.int .i64 0),(.int .i64 0)]),nq (.st 3 (tq 7) (tq 25))] false [] (some [0,1,5,6,7])) (.seq (.reg [oq 26 (mq 1),oq 27 (.ld 3 true (tq 7)),oq 28 (.calv (tq 26) [(tq 27)]),oq 29 (.un .not (tq 28))] false [] (some [0,1,5,6,7,29])) (.cond (tq 29) (.seq (.reg [oq 30 (mq 0),oq 31 (mq 5),oq 32 (.ld 3 true (tq 7)),oq 33 (.iad 3 (tq 30) (tq 31)),nq (.st 3 (tq 33) (tq 32))] false [] (some [0,1,5,6])) (.reg [oq 34 (mq 5),oq 35 (.bin .add (tq 34) (.const (.int .i64 1))),oq 5 (mq 35)] false [] (some [0,1,5,6]))) .skip)))) (.reg [oq 20 (mq 6),oq 21 (.bin .add (tq 20) (.const (.int .i64 1))),oq 6 (mq 21)] false [] (some [0,1,5,6])))))=c)=>c) _ (by conv=>lhs;reduce)
def bNd:CC:=(fun (c:CC->CC) (_:(fun a0=>(.block (some [0,5]) 0 (.loop 2 (some [0,1,5,6]) a0)))=c)=>c) _ (by conv=>lhs;reduce) bNc
def b0f:CC:=(fun (c:CC->CC) (_:(fun a0=>(.seq (.reg [oq 4 (.mv (.const (.slice none 0 0)))] false [] (some [0,1])) (.seq (.reg [oq 8 (mq 0),oq 9 (mq 1),oq 10 (.call 171 [(tq 8),(tq 9)]),oq 5 (mq 10)] false [] (some [0,1,5])) (.seq (.seq (.reg [oq 11 (mq 5),oq 12 (.bin .eql (tq 11) (.const (.int .i64 (-1))))] false [] (some [0,1,5,12])) (.cond (tq 12) (.seq (.reg [oq 13 (mq 0),oq 4 (mq 13)] false [] (some [4])) .ret) .skip)) (.seq (.seq (.reg [oq 14 (mq 5),oq 15 (.bin .add (tq 14) (.const (.int .i64 1))),oq 6 (mq 15)] false [] (some [0,1,5,6])) a0) (.seq (.reg [oq 36 (mq 0),oq 37 (mq 5),oq 38 (.slc 3 (tq 36) (some (tq 37)) none),nq (.clr 3 (.agg [(.int .i64 0),(.int .i64 0),(.int .i64 0)]) (tq 38))] false [] (some [0,5])) (.seq (.reg [oq 39 (mq 0),oq 40 (mq 5),oq 41 (.slc 3 (tq 39) none (some (tq 40))),oq 4 (mq 41)] false [] (some [4])) .ret)))))))=c)=>c) _ (by conv=>lhs;reduce) bNd
theorem b7P:aZ Tryz.prog 141 b0f [4] 42:=aZ.of Tryz.f141 Tryz.func141 rfl
def cDA:{c:CC // aJ Tryz.prog 142=c}:=⟨_,by conv=>lhs;reduce⟩
def cBP:{c:CC // bA Tryz.prog 142 { fs:=false } cDA.1 []=c}:=⟨_,by conv=>lhs;reduce⟩
def b0e:CC:=(fun (c:CC) (_:(cBP.1)=c)=>c) _ (by conv=>lhs;reduce)
theorem b7O:aZ Tryz.prog 142 b0e [3] 8:=aZ.of Tryz.f142 Tryz.func142 rfl
def cDe:{c:CC // aJ Tryz.prog 171=c}:=⟨_,by conv=>lhs;reduce⟩
def b4T:{c:CC // bA Tryz.prog 171 { gc:=2,fs:=false } cDe.1 []=c}:=⟨_,by conv=>lhs;reduce⟩
def bMu:CC:=(fun (c:CC) (_:(b4T.1.aV [1,0,1,0,0])=c)=>c) _ (by conv=>lhs;reduce)
def bMv:CC:=(fun (c:CC->CC) (_:(fun a0=>(b4T.1.aV [1,0,1]).aU [0,0] a0)=c)=>c) _ (by conv=>lhs;reduce) bMu
def bZR:CC:=(fun (c:CC->CC) (_:(fun a0=>(b4T.1).aU [1,0,1] a0)=c)=>c) _ (by conv=>lhs;reduce) bMv
theorem b7w:aZ Tryz.prog 171 bZR [4] 19:=aZ.of Tryz.f171 Tryz.func171 rfl
end Go.Proofs.YtakemdamegfcfaaGreat
