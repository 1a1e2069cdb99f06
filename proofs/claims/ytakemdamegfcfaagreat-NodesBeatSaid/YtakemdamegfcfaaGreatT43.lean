/- A part of a proof: what functions of the program compute. No condition. -/
import Derived.Test.YtakemdamegfcfaaGreatT38
import Derived.Test.YtakemdamegfcfaaGreatT39
import Derived.Test.YtakemdamegfcfaaGreatT42
import Derived.Test.YtakemdamegfcfaaGreatT26
import Derived.Test.YtakemdamegfcfaaGreatT35
import Derived.Test.YtakemdamegfcfaaGreatT34
import Derived.KernelRfl
import Derived.Test.YtakemdamegfcfaaGreatProg
import Derived.Test.YtakemdamegfcfaaGreatT6
import Derived.Test.YtakemdamegfcfaaGreatT10
set_option linter.unusedSimpArgs false
set_option linter.unusedVariables false
set_option maxHeartbeats 16000000
set_option maxRecDepth 100000
namespace Go.Proofs.YtakemdamegfcfaaGreat
open Go Go.Ab
theorem a2i (a n:Int) (h:1<=n) (h2:n<=1000000):aT Tryz.prog 16 [.int .i64 a,.int .i64 n] (.int .i64 (inF a n)):=by
 unfold aT
 refine aK a2C (by simp) ?_
 unfold a2x
 have hr: -n<a.tmod n/\a.tmod n<n:=⟨Int.lt_tmod_of_pos a (by omega),Int.tmod_lt_of_pos a (by omega)⟩
 unfold inF
 generalize hk:a.tmod n=k at hr
 by_cases hc:k<0
 · rw [if_pos hc]
   simp -implicitDefEqProofs(disch:=first|decide|omega)only[↓aA,aC,aB,simprocAttr,x8,hk]
   omega
 · rw [if_neg hc]
   simp -implicitDefEqProofs(disch:=first|decide|omega)only[↓aA,aC,aB,simprocAttr,x8,hk]
   omega

def R30:{c:CC // aJ Tryz.prog 30=c}:=⟨_,by conv=>lhs;reduce⟩
def S30:{c:CC // bA Tryz.prog 30 { fz:=[(true,17,[17]),(true,26,[26]),(true,40,[40]),(true,51,[51]),(true,65,[65])],fs:=false } R30.1 [([1,1,1,1,0],(.p [0,2,3,5,6,8,1,7,9,10] (.f [4,11,12,13,14]) (.f [11,4,12,13,14])))]=c}:=⟨_,by conv=>lhs;reduce⟩
def a5q:CC:=(fun (c:CC) (_:(S30.1)=c)=>c) _ (by conv=>lhs;reduce)
theorem a4W:aX Tryz.prog 30 a5q [.ce 6 41 10 true,.tm 7] 66:=aX.of Tryz.f30 Tryz.func30 rfl ⟨by kernel_rfl,trivial⟩
end Go.Proofs.YtakemdamegfcfaaGreat
