/- A part of a proof: what functions of the program compute. No condition. -/
import Derived.Test.YtakemdamegfcfaaGreatT30
import Derived.Test.YtakemdamegfcfaaGreatProg
import Derived.KernelRfl
import Derived.Test.YtakemdamegfcfaaGreatT6
import Derived.Test.YtakemdamegfcfaaGreatT10
import Derived.Test.YtakemdamegfcfaaGreatT9
import Derived.Test.YtakemdamegfcfaaGreatT23
import Derived.Test.YtakemdamegfcfaaGreatT17
import Derived.Test.YtakemdamegfcfaaGreatT22
import Derived.Test.YtakemdamegfcfaaGreatT21
import Derived.Test.YtakemdamegfcfaaGreatT26
set_option linter.unusedSimpArgs false
set_option linter.unusedVariables false
set_option maxHeartbeats 16000000
set_option maxRecDepth 100000
namespace Go.Proofs.YtakemdamegfcfaaGreat
open Go Go.Ab
set_option maxHeartbeats 16000000 in
theorem aUx (g:GP) (hl:GM g.l) (hns:g.ns.length<=30) (hnl:g.labs.length=1∨g.labs.length=2) (hi:g.l.length<g.pl.length) (hpl:g.pl.length<=7) (hpp:∀ (q:Nat) (h:q<g.pl.length),g.pl[q]=g.ps q) (cs:Nat->List Cap) (Q:AE->St->Prop)
 (hQ:∀ (u:Int) (r':Nat) (H':List AO),Sub 0 ⟨[(1,.sl true 1 (g.ns.map I64)),(4,.ref 0 0 0),(6,.ref 1 0 0),(7,.sl false 1 (g.pl.map .str)),(8,.int .i64 ((g.l.length:Int)+1))],H'⟩ ⟨[(1,.sl true 1 (g.ns.map I64)),(4,.ref 0 0 0),(6,.ref 1 0 0),(7,.sl false 1 (g.pl.map .str)),(8,.int .i64 ((g.l.length:Int)+1))],(g.add r' u).B (uB cs g.l.length g.labs.length)⟩->Q .normal ⟨[(1,.sl true 1 (g.ns.map I64)),(4,.ref 0 0 0),(6,.ref 1 0 0),(7,.sl false 1 (g.pl.map .str)),(8,.int .i64 ((g.l.length:Int)+1))],H'⟩) :
 aw Tryz.prog tM Q ⟨[(1,.sl true 1 (g.ns.map I64)),(4,.ref 0 0 0),(6,.ref 1 0 0),(7,.sl false 1 (g.pl.map .str)),(8,.int .i64 (g.l.length:Int))],g.B cs⟩:=by
 unfold tM
 have hg:g.pl.getD g.l.length default=g.ps g.l.length:=by rw [<- hpp _ hi];simp [hi]
 have qt:=fun u=>aUw g hl hnl u cs
 obtain ⟨ns,labs,pl,r,ps,us,l⟩:=g
 simp only at hl hns hnl hi hpl hg qt hQ ⊢
 by_cases h1:l.length<ns.length
 · have hgn:ns.getD l.length default=ns[l.length]:=by simp [h1]
   obtain ⟨w,w1,w2,cw⟩:=tB ns[l.length] 20000 (by omega) (by omega)
   generalize ns[l.length]=v at cw hgn
   by_cases h2:v.tmod 3=0
   · cases hl
     all_goals
      simp only [GP.B,GP.H,gQ,gA,gb,cW,List.cons_append,List.nil_append,List.length_cons,List.length_nil] at h1 hgn hg hi qt hQ ⊢
      simp -implicitDefEqProofs(disch:=first|decide|omega)only[↓aA,aC,aB,simprocAttr,hg,hgn,aSs,h2,cA,bU,List.append_nil]
      repeat (refine And.intro (by omega) ?_)
      refine aE (aI.of (aM:=false) (cw) (.refl rfl) rfl (by simp)) ?_
      simp -implicitDefEqProofs(disch:=first|decide|omega)only[↓aA,aC,aB,simprocAttr,hg,hgn,cA,bU,List.append_nil]
      repeat (refine And.intro (by omega) ?_)
      refine qt (1+w) _ fun r' H' hs=>?_
      refine Ya ?_
      exact hQ _ r' H' hs
   · cases hl
     all_goals
      simp only [GP.B,GP.H,gQ,gA,gb,cW,List.cons_append,List.nil_append,List.length_cons,List.length_nil] at h1 hgn hg hi qt hQ ⊢
      simp -implicitDefEqProofs(disch:=first|decide|omega)only[↓aA,aC,aB,simprocAttr,hg,hgn,aSs,h2,cA,bU,List.append_nil]
      repeat (refine And.intro (by omega) ?_)
      refine qt 1000000 _ fun r' H' hs=>?_
      refine Ya ?_
      exact hQ _ r' H' hs
 · cases hl
   all_goals
    simp only [GP.B,GP.H,gQ,gA,gb,cW,List.cons_append,List.nil_append,List.length_cons,List.length_nil] at h1 hg hi qt hQ ⊢
    simp -implicitDefEqProofs(disch:=first|decide|omega)only[↓aA,aC,aB,simprocAttr,hg,cA,bU,List.append_nil]
    repeat (refine And.intro (by omega) ?_)
    refine qt 1000000 _ fun r' H' hs=>?_
    refine Ya ?_
    exact hQ _ r' H' hs
def ixs:Nat->List Nat
 | 0=>[]
 | n+1=>ixs n++[n]
theorem aBL:∀ n,(ixs n).length=n
 | 0=>rfl
 | n+1=>by simp [ixs,aBL n]
theorem aRv {n:Nat} (h:n<=6):GM (ixs n):=by
 rcases (by omega:n=0∨n=1∨n=2∨n=3∨n=4∨n=5∨n=6) with rfl|rfl|rfl|rfl|rfl|rfl|rfl<;>constructor
def GP.at (g:GP) (r:Nat) (us:Nat->Int) (i:Nat):GP:={ g with r:=r,us:=us,l:=ixs i }
set_option maxHeartbeats 16000000 in
theorem aUy (g:GP) (hns:g.ns.length<=30) (hnl:g.labs.length=1∨g.labs.length=2) (hpl:g.pl.length<=7) (hpp:∀ (q:Nat) (h:q<g.pl.length),g.pl[q]=g.ps q) (Q:AE->St->Prop)
 (hQ:∀ (r:Nat) (us:Nat->Int) (cs:Nat->List Cap),(∀ q,(cs q).length=g.labs.length)->Q (.exit 0) ⟨[(1,.sl true 1 (g.ns.map I64)),(4,.ref 0 0 0),(6,.ref 1 0 0),(7,.sl false 1 (g.pl.map .str)),(8,.int .i64 (g.pl.length:Int)),(40,.bool false)],(g.at r us g.pl.length).B cs⟩) (s0:St)
 (hs0:Sub 0 (dM (some [1,4,6,7,8]) s0) ⟨[(1,.sl true 1 (g.ns.map I64)),(4,.ref 0 0 0),(6,.ref 1 0 0),(7,.sl false 1 (g.pl.map .str)),(8,.int .i64 (((0:Nat):Int)))],[.box [.aD,.aD],.box [.sl false 1 (g.labs.map .str),.aD]]⟩) :
 aw Tryz.prog (.loop 0 (some [1,4,6,7,8]) tM) Q s0:=by
 refine aF (σ:=Nat×Nat×(Nat->Int)×(Nat->List Cap)) (fun q=>⟨[(1,.sl true 1 (g.ns.map I64)),(4,.ref 0 0 0),(6,.ref 1 0 0),(7,.sl false 1 (g.pl.map .str)),(8,.int .i64 (q.1:Int))],(g.at q.2.1 q.2.2.1 q.1).B q.2.2.2⟩) (fun q=>q.1<=g.pl.length/\∀ w,(q.2.2.2 w).length=g.labs.length) (fun q=>g.pl.length-q.1) (0,0,g.us,fun _=>List.replicate g.labs.length W0) hs0 ⟨by simp,fun w=>by simp⟩ ?_
 rintro ⟨i,r,us,cs⟩ ⟨hi,hcs⟩
 clear hs0
 simp only at hi hcs ⊢
 by_cases hin:i<g.pl.length
 · have hx:=aBL i
   have qs:=aUx (g.at r us i) (aRv (by omega)) hns hnl (by show (ixs i).length<_;rw [hx];exact hin) hpl hpp cs
   unfold GP.add at qs
   simp only [GP.at,hx] at qs ⊢
   refine qs _ fun u r' H' hs=>?_
   exact ⟨(i+1,r',(fun q=>if q=i then u else us q),uB cs i g.labs.length),hs,⟨by simp only;omega,fun w=>by
    simp only [uB]
    split
    · simp
    · exact hcs w⟩,by simp only;omega⟩
 · have:i=g.pl.length:=by omega
   subst this
   unfold tM
   refine Ya ?_
   exact hQ r us cs hcs
def aJv:CC:=(.seq (.seq (.reg [⟨(some 47),(.mv (.tmp 7)),none⟩,⟨(some 48),(.fad 1 (.tmp 6)),none⟩,⟨(some 49),(.ld 1 false (.tmp 48)),none⟩,⟨(some 50),(.lenl (.tmp 49)),none⟩,⟨(some 51),(.bin .lss (.tmp 47) (.tmp 50)),none⟩] false [] (some [1,3,5,6,7,51])) (.cond (.tmp 51) .skip (.exit 4))) (.seq (.block (some [1,3,5,6,7]) 5 (.sch (.fin [⟨(some 54),(.mv (.tmp 3)),none⟩,⟨(some 55),(.bin .add (.tmp 54) (.const (.string ⟨#[32]⟩))),none⟩,⟨(some 56),(.fad 1 (.tmp 6)),none⟩,⟨(some 58),(.mv (.tmp 7)),none⟩,⟨(some 65),(.fad 1 (.tmp 6)),none⟩,⟨(some 67),(.mv (.tmp 7)),none⟩,⟨(some 57),(.ld 1 false (.tmp 56)),none⟩,⟨(some 59),(.iad 2 (.tmp 57) (.tmp 58)),none⟩,⟨(some 60),(.fad 0 (.tmp 59)),none⟩,⟨(some 61),(.ld 1 false (.tmp 60)),none⟩,⟨(some 66),(.ld 1 false (.tmp 65)),none⟩,⟨(some 68),(.iad 2 (.tmp 66) (.tmp 67)),none⟩,⟨(some 69),(.fad 1 (.tmp 68)),none⟩,⟨(some 70),(.ld 1 false (.tmp 69)),none⟩,⟨(some 62),(.calf 108 [(.tmp 61)]),none⟩,⟨(some 63),(.bin .add (.tmp 55) (.tmp 62)),none⟩,⟨(some 64),(.bin .add (.tmp 63) (.const (.string ⟨#[47]⟩))),none⟩,⟨(some 71),(.calf 108 [(.tmp 70)]),none⟩,⟨(some 72),(.bin .add (.tmp 64) (.tmp 71)),none⟩,⟨(some 3),(.mv (.tmp 72)),none⟩]) [54,55,56,58,65,67,59,60,68,69,63,64,72] [] (some [1,3,5,6,7]))) (.reg [⟨(some 52),(.mv (.tmp 7)),none⟩,⟨(some 53),(.bin .add (.tmp 52) (.const (.int .i64 1))),none⟩,⟨(some 7),(.mv (.tmp 53)),none⟩] false [] (some [1,3,5,6,7]))))
def aJy:CC:=(.block (some [1,3,5]) 4 (.loop 0 (some [1,3,5,6,7]) aJv))
def aJu:CC:=(.seq (.seq (.reg [⟨(some 25),(.mv (.tmp 5)),none⟩,⟨(some 26),(.fad 1 (.tmp 1)),none⟩,⟨(some 27),(.ld 1 false (.tmp 26)),none⟩,⟨(some 28),(.lenl (.tmp 27)),none⟩,⟨(some 29),(.bin .lss (.tmp 25) (.tmp 28)),none⟩] false [] (some [1,3,5,29])) (.cond (.tmp 29) .skip (.exit 2))) (.seq (.block (some [1,3,5]) 3 (.seq (.reg [⟨(some 32),(.fad 1 (.tmp 1)),none⟩,⟨(some 33),(.ld 1 false (.tmp 32)),none⟩,⟨(some 34),(.mv (.tmp 5)),none⟩,⟨(some 35),(.iad 3 (.tmp 33) (.tmp 34)),none⟩,⟨(some 36),(.ld 3 true (.tmp 35)),none⟩,⟨(some 6),(.al [(.str []),.aD,(.int .i64 0)]),none⟩,⟨none,(.st 3 (.tmp 6) (.tmp 36)),none⟩] false [] (some [1,3,5,6])) (.seq (.sch (.fin [⟨(some 37),(.mv (.tmp 3)),none⟩,⟨(some 38),(.bin .add (.tmp 37) (.const (.string ⟨#[113,117,101,117,101,32]⟩))),none⟩,⟨(some 39),(.fad 0 (.tmp 6)),none⟩,⟨(some 43),(.fad 2 (.tmp 6)),none⟩,⟨(some 40),(.ld 1 false (.tmp 39)),none⟩,⟨(some 41),(.bin .add (.tmp 38) (.tmp 40)),none⟩,⟨(some 42),(.bin .add (.tmp 41) (.const (.string ⟨#[32]⟩))),none⟩,⟨(some 44),(.ld 1 false (.tmp 43)),none⟩,⟨(some 45),(.calf 108 [(.tmp 44)]),none⟩,⟨(some 46),(.bin .add (.tmp 42) (.tmp 45)),none⟩,⟨(some 3),(.mv (.tmp 46)),none⟩]) [37,38,39,43,41,42,46] [] (some [1,3,5,6])) (.seq (.seq (.reg [⟨(some 7),(.mv (.const (.int .i64 0))),none⟩] false [] (some [1,3,5,6,7])) aJy) (.reg [⟨(some 73),(.mv (.tmp 3)),none⟩,⟨(some 74),(.bin .add (.tmp 73) (.const (.string ⟨#[10]⟩))),none⟩,⟨(some 3),(.mv (.tmp 74)),none⟩] false [] (some [1,3,5])))))) (.reg [⟨(some 30),(.mv (.tmp 5)),none⟩,⟨(some 31),(.bin .add (.tmp 30) (.const (.int .i64 1))),none⟩,⟨(some 5),(.mv (.tmp 31)),none⟩] false [] (some [1,3,5]))))
def aJx:CC:=(.block (some [3]) 2 (.loop 0 (some [1,3,5]) aJu))
def aJt:CC:=(.seq (.seq (.reg [⟨(some 8),(.mv (.tmp 4)),none⟩,⟨(some 9),(.fad 0 (.tmp 1)),none⟩,⟨(some 10),(.ld 1 false (.tmp 9)),none⟩,⟨(some 11),(.lenl (.tmp 10)),none⟩,⟨(some 12),(.bin .lss (.tmp 8) (.tmp 11)),none⟩] false [] (some [1,3,4,12])) (.cond (.tmp 12) .skip (.exit 0))) (.seq (.block (some [1,3,4]) 1 (.reg [⟨(some 15),(.mv (.tmp 3)),none⟩,⟨(some 16),(.bin .add (.tmp 15) (.const (.string ⟨#[32]⟩))),none⟩,⟨(some 17),(.fad 0 (.tmp 1)),none⟩,⟨(some 18),(.ld 1 false (.tmp 17)),none⟩,⟨(some 19),(.mv (.tmp 4)),none⟩,⟨(some 20),(.iad 1 (.tmp 18) (.tmp 19)),none⟩,⟨(some 21),(.ld 1 false (.tmp 20)),none⟩,⟨(some 22),(.bin .add (.tmp 16) (.tmp 21)),none⟩,⟨(some 3),(.mv (.tmp 22)),none⟩] false [] (some [1,3,4]))) (.reg [⟨(some 13),(.mv (.tmp 4)),none⟩,⟨(some 14),(.bin .add (.tmp 13) (.const (.int .i64 1))),none⟩,⟨(some 4),(.mv (.tmp 14)),none⟩] false [] (some [1,3,4]))))
def aJw:CC:=(.block (some [1,3]) 0 (.loop 0 (some [1,3,4]) aJt))
def aXy:CC:=(.seq (.reg [⟨(some 1),(.bx (.tmp 0)),none⟩,⟨(some 2),(.mv (.const (.string ⟨#[]⟩))),none⟩] false [] (some [1])) (.seq (.reg [⟨(some 3),(.mv (.const (.string ⟨#[108,97,98,101,108,115]⟩))),none⟩] false [] (some [1,3])) (.seq (.seq (.reg [⟨(some 4),(.mv (.const (.int .i64 1))),none⟩] false [] (some [1,3,4])) aJw) (.seq (.reg [⟨(some 23),(.mv (.tmp 3)),none⟩,⟨(some 24),(.bin .add (.tmp 23) (.const (.string ⟨#[10]⟩))),none⟩,⟨(some 3),(.mv (.tmp 24)),none⟩] false [] (some [1,3])) (.seq (.seq (.reg [⟨(some 5),(.mv (.const (.int .i64 0))),none⟩] false [] (some [1,3,5])) aJx) (.seq (.reg [⟨(some 75),(.mv (.tmp 3)),none⟩,⟨(some 2),(.mv (.tmp 75)),none⟩] false [2] (some [2])) .ret))))))
theorem aYV:aZ Tryz.prog 56 aXy [2] 76:=aZ.of Tryz.f56 Tryz.func56 rfl
def a1G:{c:CC // aJ Tryz.prog 108=c}:=⟨_,by conv=>lhs;reduce⟩
def aZY:{c:CC // bA Tryz.prog 108 {} a1G.1 []=c}:=⟨_,by conv=>lhs;reduce⟩
def aEn:CC:=(fun (c:CC) (_:(aZY.1)=c)=>c) _ (by conv=>lhs;reduce)
theorem aIj:aZ Tryz.prog 108 aEn [2] 25:=aZ.of Tryz.f108 Tryz.func108 rfl
def aKH (n:Nat) (y:AV):Prop:=∃ l:List UInt8,y= .str l/\l.length<=n
theorem cb2 {b:BitVec 8} {K:AV->Prop}:aF1 (some [AV.int .u8 (b.toNat:Int)]) K=K (.str [⟨b⟩]):=aEG (l:=[⟨b⟩])
theorem tJ:∀ (k:Nat),k<=19->∀ n:Int,0<=n->n<10^k->1<=k->aW Tryz.prog 108 [.int .i64 n] [] fun y _=>aKH k y
 | k,hk,n,h0,h1,hk1=>by
   refine aK aIj (by simp) ?_
   unfold aEn
   by_cases h10:10<=n
   · obtain ⟨m,rfl⟩:∃ m,k=m+1:=⟨k-1,by omega⟩
     have hm:1<=m:=by
      rcases Nat.eq_zero_or_pos m with rfl|h
      · rw [show (10:Int)^(0+1)=10 from rfl] at h1;omega
      · exact h
     have hp:(10:Int)^(m+1)=10*10^m:=by rw [Int.pow_succ,Int.mul_comm]
     rw [hp] at h1
     have hb:(10:Int)^m<=1000000000000000000:=by
      have:=Nat.pow_le_pow_right (n:=10) (by decide) (show m<=18 by omega)
      have h2:(10:Int)^m=((10^m:Nat):Int):=by rw [Int.natCast_pow];rfl
      rw [h2]
      exact Int.ofNat_le.2 (Nat.le_trans this (by decide))
     have e1:IntKind.i64.wrap (n.tdiv 10)=n / 10:=by
      rw [Int.tdiv_eq_ediv_of_nonneg h0]
      exact wrap_i64 (by omega) (by omega)
     have e2:n.tmod 10=n % 10:=Int.tmod_eq_emod_of_nonneg h0
     simp -implicitDefEqProofs(disch:=first|decide|omega)only[↓aA,aC,aB,simprocAttr,e1,e2]
     refine aH (tJ m (by omega) (n / 10) (by omega) (by omega) hm) rfl (by rintro _ ⟨_,rfl,_⟩;rfl) ?_
     rintro _ ⟨a,rfl,ha⟩
     simp -implicitDefEqProofs(disch:=first|decide|omega)only[↓aA,aC,aB,simprocAttr,e1,e2]
     refine aH (tJ 1 (by omega) (n % 10) (by omega) (by omega) (by omega)) rfl (by rintro _ ⟨_,rfl,_⟩;rfl) ?_
     rintro _ ⟨b,rfl,hb⟩
     simp -implicitDefEqProofs(disch:=first|decide|omega)only[↓aA,aC,aB,simprocAttr]
     repeat refine And.intro (by omega) ?_
     exact ⟨a++b,rfl,by rw [List.length_append];omega⟩
   · simp -implicitDefEqProofs(disch:=first|decide|omega)only[↓aA,aC,aB,simprocAttr,cb2]
     exact ⟨_,rfl,by simpa using hk1⟩
termination_by k=>k
decreasing_by all_goals omega
theorem aSB (n:Int) (h0: -9223372036854775808<=n) (h1:n<9223372036854775808):aW Tryz.prog 108 [.int .i64 n] [] fun y _=>aKH 20 y:=by
 by_cases hn:0<=n
 · exact (tJ 19 (by omega) n hn (by omega) (by omega)).mono fun y _ ⟨l,h1,h2⟩=>⟨l,h1,by omega⟩
 refine aK aIj (by simp) ?_
 unfold aEn
 by_cases h9:n= -9223372036854775808
 · subst h9
   refine Ya ?_
   exact ⟨_,rfl,by decide⟩
 · refine Xa h9 ?_
   refine aH (tJ 19 (by omega) (0-n) (by omega) (by omega) (by omega)) rfl (by rintro _ ⟨_,rfl,_⟩;rfl) ?_
   rintro _ ⟨a,rfl,ha⟩
   simp -implicitDefEqProofs(disch:=first|decide|omega)only[↓aA,aC,aB,simprocAttr]
   repeat refine And.intro (by omega) ?_
   exact ⟨_,rfl,by simp;omega⟩
theorem w7 (z:Int): -9223372036854775808<=IntKind.i64.wrap z/\IntKind.i64.wrap z<9223372036854775808:=by
 simp [IntKind.wrap,IntKind.signed,IntKind.bits]
 omega
theorem aSA (n:Int):aW Tryz.prog 108 [.int .i64 n] [] fun y _=>aKH 21 y:=by
 by_cases h: -9223372036854775808<=n/\n<9223372036854775808
 · exact (aSB n h.1 h.2).mono fun y _ ⟨l,h1,h2⟩=>⟨l,h1,by omega⟩
 refine aK aIj (by simp) ?_
 unfold aEn
 by_cases hn:0<=n
 · have r1:=w7 (n.tdiv 10)
   have e2:n.tmod 10=n % 10:=Int.tmod_eq_emod_of_nonneg hn
   refine Xa e2 ?_
   refine aH (aSB _ r1.1 r1.2) rfl (by rintro _ ⟨_,rfl,_⟩;rfl) ?_
   rintro _ ⟨a,rfl,ha⟩
   refine Xa e2 ?_
   refine aH (tJ 1 (by omega) (n % 10) (by omega) (by omega) (by omega)) rfl (by rintro _ ⟨_,rfl,_⟩;rfl) ?_
   rintro _ ⟨b,rfl,hb⟩
   simp -implicitDefEqProofs(disch:=first|decide|omega)only[↓aA,aC,aB,simprocAttr]
   repeat refine And.intro (by omega) ?_
   exact ⟨a++b,rfl,by rw [List.length_append];omega⟩
 · have r1:=w7 (0-n)
   have h9:¬ n= -9223372036854775808:=by omega
   refine Xa h9 ?_
   refine aH (aSB _ r1.1 r1.2) rfl (by rintro _ ⟨_,rfl,_⟩;rfl) ?_
   rintro _ ⟨a,rfl,ha⟩
   simp -implicitDefEqProofs(disch:=first|decide|omega)only[↓aA,aC,aB,simprocAttr]
   repeat refine And.intro (by omega) ?_
   exact ⟨_,rfl,by simp;omega⟩
set_option maxHeartbeats 1000000 in
theorem aBp {ls:List (List UInt8)} {qs:List Queue} (h:CL ls qs):aW Tryz.prog 56 [.agg (bN ls qs)] [] fun y _=>aKH 4000 y:=by
 have hl:=h.l
 have hq:=h.q
 refine aK aYV (by simp) ?_
 unfold aXy bN
 refine Yb ?_
 unfold aJw
 refine Ya ?_
 refine aF (σ:=Nat×List UInt8) (fun q=>⟨[(1,.ref 0 0 0),(3,.str q.2),(4,.int .i64 (q.1:Int))],[.box (bN ls qs)]⟩) (fun q=>q.1<=ls.length+1/\q.2.length+7<=13*q.1) (fun q=>ls.length+1-q.1) (1,[108,97,98,101,108,115]) ?_ ⟨by simp,by decide⟩ ?_
 · unfold bN
   exact Sub.ofS [some 0]
 rintro ⟨i,t⟩ ⟨hi,ht⟩
 simp only at hi ht
 unfold aJt bN
 by_cases hil:i<ls.length
 · have hg:ls.getD i default=ls[i]:=by simp [hil]
   have hlr:=h.lr ls[i] (List.getElem_mem hil)
   simp -implicitDefEqProofs(disch:=first|decide|omega)only[↓aA,aC,aB,simprocAttr,bB,hg]
   repeat refine And.intro (by omega) ?_
   refine ⟨(i+1,t++[32]++ls[i]),?_,⟨by simp only;omega,by simp;omega⟩,by simp only;omega⟩
   exact Sub.ofS [some 0]
 simp -implicitDefEqProofs(disch:=first|decide|omega)only[↓aA,aC,aB,simprocAttr,bB]
 repeat refine And.intro (by omega) ?_
 unfold aJx
 refine Ya ?_
 refine aF (σ:=Nat×List UInt8) (fun q=>⟨[(1,.ref 0 0 0),(3,.str q.2),(5,.int .i64 (q.1:Int))],[.box (bN ls qs)]⟩) (fun q=>q.1<=qs.length/\q.2.length<=221*q.1+60) (fun q=>qs.length-q.1) (0,t++[10]) ?_ ⟨by simp,by simp;omega⟩ ?_
 · unfold bN
   exact Sub.ofS [some 0]
 rintro ⟨i,t⟩ ⟨hi,ht⟩
 simp only at hi ht
 unfold aJu bN
 by_cases hil:i<qs.length
 · have hg:qs.getD i default=qs[i]:=by simp [hil]
   have hqr:=h.qr qs[i] (List.getElem_mem hil)
   have hc:=hqr.caps
   have hp:=hqr.path
   simp -implicitDefEqProofs(disch:=first|decide|omega)only[↓aA,aC,aB,simprocAttr,bB,bW,hg]
   repeat refine And.intro (by omega) ?_
   refine a7 (aSA _) rfl (by rintro _ ⟨_,rfl,_⟩;rfl) ?_
   rintro _ ⟨d,rfl,hd⟩
   simp -implicitDefEqProofs(disch:=first|decide|omega)only[↓aA,aC,aB,simprocAttr,bB,bW]
   repeat refine And.intro (by omega) ?_
   unfold aJy
   refine Ya ?_
   generalize hu:t++[113,117,101,117,101,32]++qs[i].path++[32]++d=u
   have hul:u.length<=221*i+148:=by
    rw [<- hu]
    simp
    omega
   refine aF (σ:=Nat×List UInt8) (fun q=>⟨[(1,.ref 0 0 0),(3,.str q.2),(5,.int .i64 (i:Int)),(6,.ref 1 0 0),(7,.int .i64 (q.1:Int))],[.box (bN ls qs),.box (jU qs[i])]⟩) (fun q=>q.1<=qs[i].caps.length/\q.2.length<=221*i+148+44*q.1) (fun q=>qs[i].caps.length-q.1) (0,u) ?_ ⟨by simp,by simp only;omega⟩ ?_
   · unfold bN
     exact Sub.ofS [some 0,some 1]
   rintro ⟨k,v⟩ ⟨hk,hv⟩
   simp only at hk hv
   unfold aJv bN
   by_cases hkl:k<qs[i].caps.length
   · have hgk:qs[i].caps.getD k default=qs[i].caps[k]:=by simp [hkl]
     simp -implicitDefEqProofs(disch:=first|decide|omega)only[↓aA,aC,aB,simprocAttr,bB,bW,kH,hgk]
     repeat refine And.intro (by omega) ?_
     refine a7 (aSA _) rfl (by rintro _ ⟨_,rfl,_⟩;rfl) ?_
     rintro _ ⟨d1,rfl,hd1⟩
     simp -implicitDefEqProofs(disch:=first|decide|omega)only[↓aA,aC,aB,simprocAttr,bB,bW,kH]
     repeat refine And.intro (by omega) ?_
     refine a7 (aSA _) rfl (by rintro _ ⟨_,rfl,_⟩;rfl) ?_
     rintro _ ⟨d2,rfl,hd2⟩
     simp -implicitDefEqProofs(disch:=first|decide|omega)only[↓aA,aC,aB,simprocAttr,bB,bW,kH]
     repeat refine And.intro (by omega) ?_
     refine ⟨(k+1,v++[32]++d1++[47]++d2),?_,⟨by simp only;omega,by simp;omega⟩,by simp only;omega⟩
     exact Sub.ofS [some 0,some 1]
   · simp -implicitDefEqProofs(disch:=first|decide|omega)only[↓aA,aC,aB,simprocAttr,bB,bW]
     repeat refine And.intro (by omega) ?_
     refine ⟨(i+1,v++[10]),?_,⟨by simp only;omega,by simp;omega⟩,by simp only;omega⟩
     exact Sub.ofS [some 0]
 · refine Yb ?_
   exact ⟨t,rfl,by omega⟩
def aUh:List (List UInt8):=[[114,111,111,116]]
def aUg:List (List UInt8):=[[114,111,111,116],[114,111,111,116,46,97],[114,111,111,116,46,98]]
def aUf:List (List UInt8):=[[114,111,111,116],[114,111,111,116,46,97],[114,111,111,116,46,97,46,120],[114,111,111,116,46,97,46,121],[114,111,111,116,46,98]]
def aUe:List (List UInt8):=[[114,111,111,116],[114,111,111,116,46,97],[114,111,111,116,46,98],[114,111,111,116,46,98,46,120],[114,111,111,116,46,98,46,120,46,112],[114,111,111,116,46,98,46,120,46,113],[114,111,111,116,46,99]]
def aUd:List (List UInt8):=[[114,111,111,116],[114,111,111,116,46,97]]
def aUp (g:GP) (cs:Nat->List Cap) (q:Nat):Queue:=⟨g.ps q,cs q,g.us q⟩
def nqG (g:GP) (cs:Nat->List Cap):List NQ:=g.l.map fun q=>⟨g.ps q,(cs q).map CAP,g.us q,3+q⟩
theorem aMn (g:GP) (cs:Nat->List Cap):oM (nqG g cs)=(g.l.map (aUp g cs)).map QUE:=by
 unfold oM nqG
 rw [List.map_map,List.map_map]
 rfl
theorem x0 (ps:Nat->List UInt8) (us:Nat->Int) (nl:Nat) (cs:Nat->List Cap) (h:∀ q,(cs q).length=nl):∀ l:List Nat,kF (l.map fun q=>(⟨ps q,(cs q).map CAP,us q,3+q⟩:NQ))=gQ ps us nl l
 | []=>rfl
 | q :: l=>by
   have:=x0 ps us nl cs h l
   unfold kF at this ⊢
   rw [List.map_cons,List.flatMap_cons,this]
   simp only [List.length_map,h]
   rfl
theorem aIu (cs:Nat->List Cap):∀ l:List Nat,gA cs l=l.map fun q=>.arr 2 ((cs q).map CAP)
 | []=>rfl
 | q :: l=>by rw [gA,aIu cs l];rfl
theorem GL.rng {l:List Nat} (h:GL l):l=List.range l.length:=by cases h<;>rfl
theorem aRc (g:GP) (hl:GL g.l) (cs:Nat->List Cap) (A B:AO) (bs:List AV) (T:List AO):∀ x∈nqG g cs,(A :: B :: .box bs :: (gA cs g.l++T))[x.id]?=some (.arr 2 x.l)/\x.id≠2:=by
 intro x hx
 unfold nqG at hx
 obtain ⟨q,hq,rfl⟩:=List.mem_map.1 hx
 have e:=hl.rng
 rw [e] at hq
 have hq:=List.mem_range.1 hq
 have eq:(gA cs g.l)[q]?=some (.arr 2 ((cs q).map CAP)):=by
  rw [aIu,e,List.getElem?_map,List.getElem?_range hq]
  rfl
 refine ⟨?_,by simp only;omega⟩
 simp only
 rw [show 3+q=q+1+1+1 by omega,List.getElem?_cons_succ,List.getElem?_cons_succ,List.getElem?_cons_succ,List.getElem?_append_left (List.getElem?_eq_some_iff.1 eq).1]
 exact eq
theorem aHH (g:GP) (hl:GL g.l) (cs:Nat->List Cap):((nqG g cs).map NQ.id).Nodup:=by
 unfold nqG
 rw [List.map_map,hl.rng]
 refine List.pairwise_map.2 (List.nodup_range.imp fun {a b} h=>?_)
 simp only [Function.comp]
 omega
def gT:List (List (List UInt8)):=[aUh,aUg,aUf,aUe,aUd]
def gP (ns:List Int) (labs pl:List (List UInt8)):GP:=⟨ns,labs,pl,0,fun q=>pl.getD q default,fun _=>0,[]⟩
theorem aWN (ns:List Int) (labs pl:List (List UInt8)):∀ (q:Nat) (h:q<(gP ns labs pl).pl.length),(gP ns labs pl).pl[q]=(gP ns labs pl).ps q:=fun q h=>by
 have:q<pl.length:=h
 show pl[q]=pl.getD q default
 simp [this]
theorem aWO {ns:List Int} {labs pl:List (List UInt8)} (hns:ns.length<=30) (hl:labs.length=1∨labs.length=2) (hp:pl.length<=7) (hx:∀ x∈pl,x.length<=60) (hg:GL (ixs pl.length)) (r:Nat) (us:Nat->Int):aBm ((gP ns labs pl).at r us pl.length):=by
 refine ⟨hns,hl,hp,hg,fun q=>?_⟩
 show (pl.getD q default).length<=60
 by_cases h:q<pl.length
 · have:pl.getD q default=pl[q]:=by simp [h]
   rw [this]
   exact hx _ (List.getElem_mem h)
 · have:pl.getD q default=default:=by simp [List.getElem?_eq_none (Nat.le_of_not_lt h)]
   rw [this]
   show (0:Nat)<=60
   omega
theorem aKG {pl:List (List UInt8)} (h:pl∈gT):pl.length<=7/\(∀ x∈pl,x.length<=60)/\GL (ixs pl.length):=by
 simp only [gT,List.mem_cons,List.not_mem_nil,or_false] at h
 rcases h with rfl|rfl|rfl|rfl|rfl
 · exact ⟨by decide,by decide,.a⟩
 · exact ⟨by decide,by decide,.c⟩
 · exact ⟨by decide,by decide,.d⟩
 · exact ⟨by decide,by decide,.e⟩
 · exact ⟨by decide,by decide,.b⟩
theorem ldt {l:List (List (List UInt8))} {i:Nat} {K:AV->Prop} (h:i<l.length):rG 1 false i 0 (some (.arr 1 (l.map fun t=>.sl false 1 (t.map .str)))) K=K (.sl false 1 (l[i].map .str)):=by
 show (_/\_/\_/\_)=_
 simp [h]
 rfl
def aOd (y:AV) (G:List AO):Prop:=∃ (g:GP) (cs:Nat->List Cap) (T:List AO),aBm g/\(∀ q,(cs q).length=g.labs.length)/\(∀ x∈g.labs,x.length<=12)/\y= .agg [.sl false 1 (g.labs.map .str),.own 2 3 0 g.l.length]/\G= .box [.sl false 1 (g.labs.map .str),.own 2 3 0 g.l.length] :: (g.H cs []).tail
set_option maxHeartbeats 16000000 in
theorem aIq (shape:Int) (ns:List Int) (hns:ns.length<=30):aW Tryz.prog 57 [.int .i64 shape,.sl true 1 (ns.map I64)] [] aOd:=by
 refine aO aVk (by simp) ?_
 unfold aXx
 obtain ⟨x1,a1,b1,c1⟩:=tB (IntKind.i64.wrap (shape.tdiv 5)) 2 (by omega) (by omega)
 obtain ⟨x2,a2,b2,c2⟩:=tB shape 5 (by omega) (by omega)
 refine Yq ?_
 refine aE (aI.of (aM:=false) (c1) (.refl rfl) rfl (by simp)) ?_
 refine Yq ?_
 refine ⟨by omega,by omega,by omega,?_⟩
 obtain ⟨labs,hl1,hl2,hl3⟩:∃ labs:List (List UInt8),List.take (1+x1).toNat [AV.str [],AV.str [103,112,117]]=labs.map .str/\(labs.length=1∨labs.length=2)/\∀ x∈labs,x.length<=12:=by
  rcases (by omega:x1=0∨x1=1) with rfl|rfl
  · exact ⟨[[]],rfl,.inl rfl,by decide⟩
  · exact ⟨[[],[103,112,117]],rfl,.inr rfl,by decide⟩
 rw [hl1]
 unfold aB4
 refine Ya ?_
 refine aE (aI.of (aM:=false) (c2) (.refl rfl) rfl (by simp)) ?_
 refine Ya ?_
 refine ⟨a2,b2,?_⟩
 have hx2:x2.toNat<gT.length:=by show x2.toNat<5;omega
 show rG 1 false x2.toNat 0 (some (.arr 1 (gT.map fun t=>.sl false 1 (t.map .str)))) _
 rw [ldt hx2]
 have ht:=aKG (List.getElem_mem hx2)
 generalize gT[x2.toNat]=pl at ht
 obtain ⟨t1,t2,t3⟩:=ht
 refine Ya ?_
 unfold aJn
 refine Ya ?_
 refine aUy (gP ns labs pl) hns hl2 t1 (aWN ns labs pl) _ (fun r us cs hcs=>?_) _ (by
  simp only [gP]
  (refine Sub.ofL [some 0,some 8] rfl (by simp) (by decide) (by simp [cQ,AO.ro,AV.ro,AV.roL,names,AO.empty,SB,U8,SI,I64,STR]<;>(try and_intros)<;>rfl) (by simp [AO.bo,AV.bo,AV.boL,names]<;>(try and_intros)<;>rfl) ?_<;>(try simp only [List.map_cons,List.map_nil,cV,AV.ro,AV.roL,AV.bo,AV.boL,names,bK,bE,Nat.reduceBEq,List.getD_cons_zero,List.getD_cons_succ,List.getD_nil,and_true,true_and,Nat.reduceLT,List.length_cons,List.length_nil,Nat.reduceAdd,decide_true,Option.isSome_some,Bool.true_or,Bool.and_self,Option.isSome_none,Bool.false_or,beq_self_eq_true,bL,bM])<;>(try and_intros)<;>(first|done|rfl|exact .inl rfl|exact .inr ⟨rfl,_,_,rfl⟩|(simp;done)|(simp;omega)|(refine .inl ?_;simp;done)|(refine .inl ?_;simp;omega))))
 refine Ya ?_
 unfold aJp
 refine Ya ?_
 have ok:=aWO (ns:=ns) hns hl2 t1 t2 t3 r us
 have hB:((gP ns labs pl).at r us pl.length).B cs=((gP ns labs pl).at r us pl.length).H cs []:=by
  unfold GP.B
  split
  · rename_i e
    have:(ixs pl.length)=[]:=e
    rw [this] at t3
    cases t3
  · rfl
 refine aWM ((gP ns labs pl).at r us pl.length) ok cs hcs _ (fun cs' hcs'=>?_) _ (.inl (by rw [<- hB];rfl))
 have hQ:∀ T,aOd (.agg [.sl false 1 (((gP ns labs pl).at r us pl.length).labs.map .str),.own 2 3 0 ((gP ns labs pl).at r us pl.length).l.length]) (.box [.sl false 1 (((gP ns labs pl).at r us pl.length).labs.map .str),.own 2 3 0 ((gP ns labs pl).at r us pl.length).l.length] :: (((gP ns labs pl).at r us pl.length).H cs' []).tail):=fun T=>⟨_,cs',T,ok,hcs',hl3,rfl,rfl⟩
 generalize (gP ns labs pl).at r us pl.length=g at hQ ⊢
 simp only [GP.H,List.append_nil,List.tail_cons] at hQ ⊢
 refine Yq ?_
 exact hQ []
theorem aMX (shape:Int) (ns:List Int) (hns:ns.length<=30):aW Tryz.prog 57 [.int .i64 shape,.sl true 1 (ns.map I64)] [] fun y G=>(∃ ls qs,y= .agg (bN ls qs)/\CL ls qs)/\G=[]:=by
 refine ((aIq shape ns hns).sub (Post':=fun y G=>∃ ls qs,y= .agg (bN ls qs)/\CL ls qs) ?_).drop ?_
 · rintro y G ⟨g,cs,T,hg,hcs,hl,rfl,rfl⟩
   have hr:=hg.l.rng
   refine ⟨_,(j7 (nqG g cs) (.box [.sl false 1 (g.labs.map .str),.own 2 3 0 g.l.length] :: (g.H cs []).tail)).set 2 .dead,.inr (.inr ?_),g.labs,g.l.map (aUp g cs),rfl,by rcases hg.labs with h|h<;>omega,hl,by rw [List.length_map];have:=hg.l.len;omega,fun q hq=>?_⟩
   · have hs:=aGP (g:=0) (q:=2) (qs:=nqG g cs) (rest:=List.replicate g.r AV.any) (a:=.sl false 1 (g.labs.map AV.str)) (G:=.box [.sl false 1 (g.labs.map .str),.own 2 3 0 g.l.length] :: (g.H cs []).tail) (by
      unfold nqG
      rw [x0 g.ps g.us g.labs.length cs hcs]
      rfl) (aRc g hg.l cs _ _ _ _) (aHH g hg.l cs) rfl
     have hlen:(nqG g cs).length=g.l.length:=by simp [nqG]
     rw [hlen,aMn] at hs
     exact hs
   · obtain ⟨x,hx,rfl⟩:=List.mem_map.1 hq
     exact ⟨hg.ps x,by show (cs x).length<=3;rw [hcs];rcases hg.labs with h|h<;>omega⟩
 · rintro y Hr ⟨ls,qs,rfl,h⟩
   exact ⟨[],Hr,rfl,Nat.le_refl _,by rfl,by simp,⟨ls,qs,rfl,h⟩,rfl⟩
theorem aUT (n:Int):aW Tryz.prog 113 [.int .i64 n] [] fun y _=>qV y:=by
 have r:=gO n 5 (by omega)
 have c:=dO n 5 (by omega) (by omega)
 generalize inF n 5=m at r c
 refine aO aR5 (by simp) ?_
 unfold aPY
 refine Yb ?_
 refine aE (aI.of (aM:=false) (c) (.refl rfl) rfl (by simp)) ?_
 have:m=0∨m=1∨m=2∨m=3∨m=4:=by omega
 rcases this with rfl|rfl|rfl|rfl|rfl<;>simp -implicitDefEqProofs(disch:=first|decide|omega)only[↓aA,aC,aB,simprocAttr,bB]
 all_goals repeat' first
  | exact ⟨_,_,rfl⟩
  | exact .inl rfl
  | with_reducible apply And.intro
  | (simp;done)
  | simp -implicitDefEqProofs(disch:=first|decide|omega)only[↓aA,aC,aB,simprocAttr,bB,rG,List.getD_cons_zero,List.getD_cons_succ]
def aMO (y:AV):Prop:=∃ x:Inp,y= .agg (bZ x)/\aBl x
theorem Wk4.cD {α:Type} {t:Bool} {z:Nat} {F:α->AV}:Wk4 .aD (.sl t z (([]:List α).map F)):=.nil
theorem lM (l:List AV) (x:Inp) (h:W4L l (bZ x)) (ht:aBl x):∃ y,Wk4 (.agg l) y/\aMO y:=⟨.agg (bZ x),.aKn h (by simp [bZ,AV.one]),x,rfl,ht⟩
theorem aA4 {a:App} (h1:a.queue.length<=60) (h2:a.asks=[]) (h3:a.grants=[]) (h4:a.kills=[]) (h5:a.told=[]) (h6:a.lost=[]):AT a:=⟨h1,by simp [h2],by simp [h3],by simp [h4],by simp [h5],by simp [h6]⟩
set_option maxHeartbeats 2000000 in
theorem t114 {s:Sta} (h:ST s) (x:Act) (A:AV) (hA:A= .aD∨∃ l:List Ask,A= .sl false 8 (l.map ASK)/\l.length<=8) (id bt:Int) (a:App) (T:List AO):aw Tryz.prog rV (oN [.ce 4 102 35 true] fun r _=>∃ y,Wk4 r y/\aMO y) ⟨[(2,.ref 0 0 0),(3,.ref 1 0 0),(4,.ref 2 0 0),(5,.ref 3 0 0),(6,.ref 4 0 0)],.box [.int .i64 x.kind,.int .i64 x.a,.int .i64 x.b,.int .i64 x.c,.int .i64 x.d] :: .box (stC s) :: .box [.int .i64 0,.int .i64 0,.int .i64 0,.int .i64 0,.str [],.int .i64 0,.int .i64 0,.int .i64 0,.int .i64 0,.int .i64 0,.int .i64 0,.int .i64 0,.bool false,.int .i64 0,.int .i64 0,.str [],.int .i64 0,.int .i64 0,.int .i64 0,.int .i64 0,.aD,.int .i64 0,.int .i64 0,.aD,.aD,.aD,.aD,.aD,.aD,.int .i64 0,.int .i64 0,.int .i64 0,.int .i64 0,.int .i64 0,.int .i64 0] :: .box [.int .i64 5,.int .i64 id,.int .i64 bt,.int .i64 0,.str [],.int .i64 0,.int .i64 0,.int .i64 0,.int .i64 0,.int .i64 0,.int .i64 0,.int .i64 0,.bool false,.int .i64 0,.int .i64 0,.str [],.int .i64 0,.int .i64 0,.int .i64 0,.int .i64 0,.aD,.int .i64 0,.int .i64 0,.aD,.aD,.aD,.aD,A,.aD,.int .i64 0,.int .i64 0,.int .i64 0,.int .i64 0,.int .i64 0,.int .i64 0] :: .box (bI a) :: T⟩:=by
 have k1:=h.k
 rcases hA with rfl|⟨l,rfl,hl⟩
 · unfold rV
   refine Ya ?_
   unfold wQ
   refine Ya ?_
   refine aF (σ:=Nat×List Int) (fun z=>⟨[(2,.ref 0 0 0),(3,.ref 1 0 0),(4,.ref 2 0 0),(5,.ref 3 0 0),(6,.ref 4 0 0),(8,.int .i64 (z.1:Int))],[.box [.int .i64 x.kind,.int .i64 x.a,.int .i64 x.b,.int .i64 x.c,.int .i64 x.d],.box (stC s),.box [.int .i64 0,.int .i64 0,.int .i64 0,.int .i64 0,.str [],.int .i64 0,.int .i64 0,.int .i64 0,.int .i64 0,.int .i64 0,.int .i64 0,.int .i64 0,.bool false,.int .i64 0,.int .i64 0,.str [],.int .i64 0,.int .i64 0,.int .i64 0,.int .i64 0,.aD,.int .i64 0,.int .i64 0,.aD,.aD,.aD,.aD,.aD,.aD,.int .i64 0,.int .i64 0,.int .i64 0,.int .i64 0,.int .i64 0,.int .i64 0],.box [.int .i64 5,.int .i64 id,.int .i64 bt,.int .i64 0,.str [],.int .i64 0,.int .i64 0,.int .i64 0,.int .i64 0,.int .i64 0,.int .i64 0,.int .i64 0,.bool false,.int .i64 0,.int .i64 0,.str [],.int .i64 0,.int .i64 0,.int .i64 0,.int .i64 0,.aD,.int .i64 0,.int .i64 0,.aD,.aD,.aD,.aD,.aD,.own 5 1 0 z.2.length,.int .i64 0,.int .i64 0,.int .i64 0,.int .i64 0,.int .i64 0,.int .i64 0],.box (bI a),.arr 1 (z.2.map I64)]⟩) (fun z=>z.1<=s.conts.length/\z.2.length<=z.1) (fun z=>s.conts.length-z.1) (0,[]) ?_ ⟨by simp,by simp⟩ ?_
   · exact Sub.ofS [some 0,some 1,some 2,some 3,some 4,none]
   rintro ⟨i,L⟩ ⟨hi,hL⟩
   simp only at hi hL
   unfold wP
   by_cases hn:i<s.conts.length
   · simp -implicitDefEqProofs(disch:=first|decide|omega)only[↓aA,aC,aB,simprocAttr,bB,aY,bI]
     repeat' first
      | with_reducible apply And.intro
      | omega
      | exact ⟨(i+1,L),.inl rfl,⟨by simp only;omega,by simp only;omega⟩,by simp only;omega⟩
      | (refine bP (dO _ _ (by omega) (by omega)) rfl rfl ?_;simp -implicitDefEqProofs(disch:=first|decide|omega)only[↓aA,aC,aB,simprocAttr,bB,aY,bI])
      | (refine aE (aI.of (aM:=false) (dO _ _ (by omega) (by omega)) (.refl rfl) rfl (by simp)) ?_;simp -implicitDefEqProofs(disch:=first|decide|omega)only[↓aA,aC,aB,simprocAttr,bB,aY,bI])
      | (refine bC (fun hb=>?_) (fun hb=>?_)<;>simp -implicitDefEqProofs(disch:=first|decide|omega)only[↓aA,aC,aB,simprocAttr,hb,bB,aY,bI])
      | (refine a8 (fun hb=>?_) (fun hb=>?_)<;>simp -implicitDefEqProofs(disch:=first|decide|omega)only[↓aA,aC,aB,simprocAttr,hb,bB,aY,bI])
      | (refine ⟨(i+1,L++[(s.conts.getD i default).id]),?_,⟨by simp only;omega,by simp;omega⟩,by simp only;omega⟩
         simp only [List.length_append,List.map_append,List.map_cons,List.map_nil,List.length_cons,List.length_nil]
         exact Sub.ofS [some 0,some 1,some 2,some 3,some 4,some 7]
         done)
   · refine Yc ?_
     refine dF 5 rfl ?_
     refine Yn ?_
     refine dZ ?_
     refine Yb ?_
     exact lM _ ⟨_,_,_,_,_,⟨_,_,_,_,_,_,_,_⟩,⟨_,_,_,_,_,_,_,_,_,_,_,_,_,_⟩,_,_,⟨_,_,_,_,_,_⟩⟩ ⟨.refl _,.refl _,.refl _,.refl _,.refl _,.refl _,.refl _,.refl _,.refl _,.refl _,.refl _,.refl _,.refl _,.refl _,.refl _,.refl _,.refl _,.refl _,.refl _,.refl _,.cD,.refl _,.refl _,.cD,.cD,.cD,.cD,.cD,.refl _,.refl _,.refl _,.refl _,.refl _,.refl _,.refl _,trivial⟩ ⟨Nat.zero_le _,aA4 (Nat.zero_le _) rfl rfl rfl rfl rfl,Nat.zero_le _,by simp only;omega,(show (0:Int)<=8999 by decide)⟩
 · unfold rV
   refine Ya ?_
   unfold wQ
   refine Ya ?_
   refine aF (σ:=Nat×List Int) (fun z=>⟨[(2,.ref 0 0 0),(3,.ref 1 0 0),(4,.ref 2 0 0),(5,.ref 3 0 0),(6,.ref 4 0 0),(8,.int .i64 (z.1:Int))],[.box [.int .i64 x.kind,.int .i64 x.a,.int .i64 x.b,.int .i64 x.c,.int .i64 x.d],.box (stC s),.box [.int .i64 0,.int .i64 0,.int .i64 0,.int .i64 0,.str [],.int .i64 0,.int .i64 0,.int .i64 0,.int .i64 0,.int .i64 0,.int .i64 0,.int .i64 0,.bool false,.int .i64 0,.int .i64 0,.str [],.int .i64 0,.int .i64 0,.int .i64 0,.int .i64 0,.aD,.int .i64 0,.int .i64 0,.aD,.aD,.aD,.aD,.aD,.aD,.int .i64 0,.int .i64 0,.int .i64 0,.int .i64 0,.int .i64 0,.int .i64 0],.box [.int .i64 5,.int .i64 id,.int .i64 bt,.int .i64 0,.str [],.int .i64 0,.int .i64 0,.int .i64 0,.int .i64 0,.int .i64 0,.int .i64 0,.int .i64 0,.bool false,.int .i64 0,.int .i64 0,.str [],.int .i64 0,.int .i64 0,.int .i64 0,.int .i64 0,.aD,.int .i64 0,.int .i64 0,.aD,.aD,.aD,.aD,.sl false 8 (l.map ASK),.own 5 1 0 z.2.length,.int .i64 0,.int .i64 0,.int .i64 0,.int .i64 0,.int .i64 0,.int .i64 0],.box (bI a),.arr 1 (z.2.map I64)]⟩) (fun z=>z.1<=s.conts.length/\z.2.length<=z.1) (fun z=>s.conts.length-z.1) (0,[]) ?_ ⟨by simp,by simp⟩ ?_
   · exact Sub.ofS [some 0,some 1,some 2,some 3,some 4,none]
   rintro ⟨i,L⟩ ⟨hi,hL⟩
   simp only at hi hL
   unfold wP
   by_cases hn:i<s.conts.length
   · simp -implicitDefEqProofs(disch:=first|decide|omega)only[↓aA,aC,aB,simprocAttr,bB,aY,bI]
     repeat' first
      | with_reducible apply And.intro
      | omega
      | exact ⟨(i+1,L),.inl rfl,⟨by simp only;omega,by simp only;omega⟩,by simp only;omega⟩
      | (refine bP (dO _ _ (by omega) (by omega)) rfl rfl ?_;simp -implicitDefEqProofs(disch:=first|decide|omega)only[↓aA,aC,aB,simprocAttr,bB,aY,bI])
      | (refine aE (aI.of (aM:=false) (dO _ _ (by omega) (by omega)) (.refl rfl) rfl (by simp)) ?_;simp -implicitDefEqProofs(disch:=first|decide|omega)only[↓aA,aC,aB,simprocAttr,bB,aY,bI])
      | (refine bC (fun hb=>?_) (fun hb=>?_)<;>simp -implicitDefEqProofs(disch:=first|decide|omega)only[↓aA,aC,aB,simprocAttr,hb,bB,aY,bI])
      | (refine a8 (fun hb=>?_) (fun hb=>?_)<;>simp -implicitDefEqProofs(disch:=first|decide|omega)only[↓aA,aC,aB,simprocAttr,hb,bB,aY,bI])
      | (refine ⟨(i+1,L++[(s.conts.getD i default).id]),?_,⟨by simp only;omega,by simp;omega⟩,by simp only;omega⟩
         simp only [List.length_append,List.map_append,List.map_cons,List.map_nil,List.length_cons,List.length_nil]
         exact Sub.ofS [some 0,some 1,some 2,some 3,some 4,some 7]
         done)
   · refine Yc ?_
     refine dF 5 rfl ?_
     refine Yn ?_
     refine dZ ?_
     refine Yb ?_
     exact lM _ ⟨_,_,_,_,_,⟨_,_,_,_,_,_,_,_⟩,⟨_,_,_,_,_,_,_,_,_,_,_,_,_,_⟩,_,_,⟨_,_,_,_,_,_⟩⟩ ⟨.refl _,.refl _,.refl _,.refl _,.refl _,.refl _,.refl _,.refl _,.refl _,.refl _,.refl _,.refl _,.refl _,.refl _,.refl _,.refl _,.refl _,.refl _,.refl _,.refl _,.cD,.refl _,.refl _,.cD,.cD,.cD,.cD,.refl _,.refl _,.refl _,.refl _,.refl _,.refl _,.refl _,.refl _,trivial⟩ ⟨Nat.zero_le _,aA4 (Nat.zero_le _) rfl rfl rfl rfl rfl,hl,by simp only;omega,(show (0:Int)<=8999 by decide)⟩
set_option maxHeartbeats 2000000 in
theorem aYG {s:Sta} (h:ST s) (x:Act):aW Tryz.prog 114 [ACT x,.agg (stC s)] [] fun y _=>aMO y:=by
 have k3:=h.a
 have hl1:=h.c.l1
 have hl3:=h.c.l3
 refine cX (aO aMM (by simp) ?_)
 unfold aOj
 by_cases ha:s.apps.length=0
 · simp -implicitDefEqProofs(disch:=first|decide|omega)only[↓aA,aC,aB,simprocAttr,bB,ACT,ha]
   exact lM _ ⟨_,_,_,_,_,⟨_,_,_,_,_,_,_,_⟩,⟨_,_,_,_,_,_,_,_,_,_,_,_,_,_⟩,_,_,⟨_,_,_,_,_,_⟩⟩ ⟨.refl _,.refl _,.refl _,.refl _,.refl _,.refl _,.refl _,.refl _,.refl _,.refl _,.refl _,.refl _,.refl _,.refl _,.refl _,.refl _,.refl _,.refl _,.refl _,.refl _,.cD,.refl _,.refl _,.cD,.cD,.cD,.cD,.cD,.cD,.refl _,.refl _,.refl _,.refl _,.refl _,.refl _,trivial⟩ ⟨Nat.zero_le _,aA4 (Nat.zero_le _) rfl rfl rfl rfl rfl,Nat.zero_le _,Nat.zero_le _,(show (0:Int)<=8999 by decide)⟩
 have r:=gO x.a s.apps.length (by omega)
 have c:=dO x.a s.apps.length (by omega) (by omega)
 generalize inF x.a s.apps.length=m at r c
 simp -implicitDefEqProofs(disch:=first|decide|omega)only[↓aA,aC,aB,simprocAttr,bB,ACT,ha]
 repeat' first
  | with_reducible apply And.intro
  | omega
  | (refine bP (c) rfl rfl ?_;simp -implicitDefEqProofs(disch:=first|decide|omega)only[↓aA,aC,aB,simprocAttr,bB,a9])
  | exact t114 h x _ (.inl rfl) _ _ _ _
  | exact t114 h x _ (.inr ⟨[⟨_,_,_,_,_,_,_,_⟩],rfl,by simp⟩) _ _ _ _
  | (refine bP (dO _ _ (by omega) (by omega)) rfl rfl ?_;simp -implicitDefEqProofs(disch:=first|decide|omega)only[↓aA,aC,aB,simprocAttr,bB,a9,bF])
  | (refine aE (aI.of (aM:=false) (dO _ _ (by omega) (by omega)) (.refl rfl) rfl (by simp)) ?_;simp -implicitDefEqProofs(disch:=first|decide|omega)only[↓aA,aC,aB,simprocAttr,bB,a9,bF])
  | (refine a7 (aUT _) rfl (by rintro _ ⟨_,_,rfl⟩;rfl) ?_;rintro _ ⟨va,vb,rfl⟩;simp -implicitDefEqProofs(disch:=first|decide|omega)only[↓aA,aC,aB,simprocAttr,bB,a9,bF])
  | (refine a8 (fun hb=>?_) (fun hb=>?_)<;>simp -implicitDefEqProofs(disch:=first|decide|omega)only[↓aA,aC,aB,simprocAttr,hb,bB,a9,bF])
end Go.Proofs.YtakemdamegfcfaaGreat
