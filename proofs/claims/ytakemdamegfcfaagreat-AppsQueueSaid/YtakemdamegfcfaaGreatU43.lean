/- A part of a proof: what functions of the program compute. No condition. -/
import Derived.Test.YtakemdamegfcfaaGreatU37
import Derived.Test.YtakemdamegfcfaaGreatU42
import Derived.Test.YtakemdamegfcfaaGreatT14
import Derived.Test.YtakemdamegfcfaaGreatProg
import Derived.KernelRfl
import Derived.Test.YtakemdamegfcfaaGreatT6
import Derived.Test.YtakemdamegfcfaaGreatT10
set_option linter.unusedSimpArgs false
set_option linter.unusedVariables false
set_option maxHeartbeats 16000000
set_option maxRecDepth 100000
namespace Go.Proofs.YtakemdamegfcfaaGreat
open Go Go.Ab

theorem a2n {s:Sta} (K:OKS s):NOk s:=by
 have hn:=K.st.n
 have ha:=K.st.a
 have hc:=K.st.k
 have hs:=K.st.l
 have hp:=K.st.p
 exact ⟨K.st.c,by omega,by omega,K.st.ar,by omega,by omega,by omega⟩
def R32:{c:CC // aJ Tryz.prog 32=c}:=⟨_,by conv=>lhs;reduce⟩
def S32:{c:CC // bA Tryz.prog 32 { fs:=false } R32.1 []=c}:=⟨_,by conv=>lhs;reduce⟩
def a6G:CC:=(fun (c:CC) (_:(S32.1)=c)=>c) _ (by conv=>lhs;reduce)
theorem a6K:aZ Tryz.prog 32 a6G [0] 37:=aZ.of Tryz.f32 Tryz.func32 rfl
end Go.Proofs.YtakemdamegfcfaaGreat
