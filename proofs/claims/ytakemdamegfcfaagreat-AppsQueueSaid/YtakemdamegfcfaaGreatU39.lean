/- A part of a proof: what functions of the program compute. No condition. -/
import Derived.Test.YtakemdamegfcfaaGreatProg
import Derived.KernelRfl
import Derived.Test.YtakemdamegfcfaaGreatT6
import Derived.Test.YtakemdamegfcfaaGreatT10
set_option linter.unusedSimpArgs false
set_option linter.unusedVariables false
set_option maxHeartbeats 16000000
set_option maxRecDepth 100000
namespace Go.Proofs.YtakemdamegfcfaaGreat
open Go Go.Ab
def R74:{c:CC // aJ Tryz.prog 74=c}:=⟨_,by conv=>lhs;reduce⟩
def S74:{c:CC // bA Tryz.prog 74 { fs:=false } R74.1 []=c}:=⟨_,by conv=>lhs;reduce⟩
def a5k:CC:=(fun (c:CC) (_:(S74.1)=c)=>c) _ (by conv=>lhs;reduce)
theorem a5A:aZ Tryz.prog 74 a5k [4] 21:=aZ.of Tryz.f74 Tryz.func74 rfl
def R78:{c:CC // aJ Tryz.prog 78=c}:=⟨_,by conv=>lhs;reduce⟩
def S78:{c:CC // bA Tryz.prog 78 { fs:=false } R78.1 []=c}:=⟨_,by conv=>lhs;reduce⟩
def a5h:CC:=(fun (c:CC) (_:(S78.1)=c)=>c) _ (by conv=>lhs;reduce)
theorem a5x:aZ Tryz.prog 78 a5h [2] 13:=aZ.of Tryz.f78 Tryz.func78 rfl
def a58:{c:CC // aJ Tryz.prog 134=c}:=⟨_,by conv=>lhs;reduce⟩
def a5T:{c:CC // bA Tryz.prog 134 { fs:=false } a58.1 []=c}:=⟨_,by conv=>lhs;reduce⟩
def a3D:CC:=(fun (c:CC) (_:(a5T.1)=c)=>c) _ (by conv=>lhs;reduce)
theorem a3l:aX Tryz.prog 134 a3D [.ce 4 72 3 true,.tm 5] 25:=aX.of Tryz.f134 Tryz.func134 rfl ⟨by kernel_rfl,trivial⟩
def a57:{c:CC // aJ Tryz.prog 135=c}:=⟨_,by conv=>lhs;reduce⟩
def a4N:{c:CC // bA Tryz.prog 135 { fs:=false } a57.1 []=c}:=⟨_,by conv=>lhs;reduce⟩
def a2Y:CC:=(fun (c:CC) (_:(a4N.1.aV [1,1,0,1,0,0])=c)=>c) _ (by conv=>lhs;reduce)
def a2Z:CC:=(fun (c:CC->CC) (_:(fun a0=>(a4N.1.aV [1,1,0,1]).aU [0,0] a0)=c)=>c) _ (by conv=>lhs;reduce) a2Y
def a4j:CC:=(fun (c:CC->CC) (_:(fun a0=>(a4N.1).aU [1,1,0,1] a0)=c)=>c) _ (by conv=>lhs;reduce) a2Z
theorem a5a:aZ Tryz.prog 135 a4j [4] 36:=aZ.of Tryz.f135 Tryz.func135 rfl
def a56:{c:CC // aJ Tryz.prog 136=c}:=⟨_,by conv=>lhs;reduce⟩
def a4M:{c:CC // bA Tryz.prog 136 { fs:=false } a56.1 []=c}:=⟨_,by conv=>lhs;reduce⟩
def a2W:CC:=(fun (c:CC) (_:(a4M.1.aV [1,1,1,1,1,1,0,0,0])=c)=>c) _ (by conv=>lhs;reduce)
def a2X:CC:=(fun (c:CC->CC) (_:(fun a0=>(a4M.1.aV [1,1,1,1,1,1,0]).aU [0,0] a0)=c)=>c) _ (by conv=>lhs;reduce) a2W
def a4i:CC:=(fun (c:CC->CC) (_:(fun a0=>(a4M.1).aU [1,1,1,1,1,1,0] a0)=c)=>c) _ (by conv=>lhs;reduce) a2X
theorem a49:aZ Tryz.prog 136 a4i [4,5] 41:=aZ.of Tryz.f136 Tryz.func136 rfl
def a54:{c:CC // aJ Tryz.prog 162=c}:=⟨_,by conv=>lhs;reduce⟩
def a4L:{c:CC // bA Tryz.prog 162 { gc:=1,fs:=false } a54.1 []=c}:=⟨_,by conv=>lhs;reduce⟩
def a2U:CC:=(fun (c:CC) (_:(a4L.1.aV [1,0,1,0,0])=c)=>c) _ (by conv=>lhs;reduce)
def a2V:CC:=(fun (c:CC->CC) (_:(fun a0=>(a4L.1.aV [1,0,1]).aU [0,0] a0)=c)=>c) _ (by conv=>lhs;reduce) a2U
def a4f:CC:=(fun (c:CC->CC) (_:(fun a0=>(a4L.1).aU [1,0,1] a0)=c)=>c) _ (by conv=>lhs;reduce) a2V
theorem a46:aZ Tryz.prog 162 a4f [4] 19:=aZ.of Tryz.f162 Tryz.func162 rfl
def a53:{c:CC // aJ Tryz.prog 163=c}:=⟨_,by conv=>lhs;reduce⟩
def a5R:{c:CC // bA Tryz.prog 163 { fs:=false } a53.1 []=c}:=⟨_,by conv=>lhs;reduce⟩
def a4e:CC:=(fun (c:CC) (_:(a5R.1)=c)=>c) _ (by conv=>lhs;reduce)
theorem a45:aZ Tryz.prog 163 a4e [3] 8:=aZ.of Tryz.f163 Tryz.func163 rfl
def a52:{c:CC // aJ Tryz.prog 164=c}:=⟨_,by conv=>lhs;reduce⟩
def a5Q:{c:CC // bA Tryz.prog 164 { fs:=false } a52.1 []=c}:=⟨_,by conv=>lhs;reduce⟩
def a4d:CC:=(fun (c:CC) (_:(a5Q.1)=c)=>c) _ (by conv=>lhs;reduce)
theorem a44:aZ Tryz.prog 164 a4d [2,3] 12:=aZ.of Tryz.f164 Tryz.func164 rfl
def a3W:CC:=(.seq (.seq (.reg [⟨(some 16),(.mv (.tmp 6)),none⟩,⟨(some 17),(.mv (.tmp 0)),none⟩,⟨(some 18),(.lenl (.tmp 17)),none⟩,⟨(some 19),(.bin .lss (.tmp 16) (.tmp 18)),none⟩] false [] (some [0,1,5,6,19])) (.cond (.tmp 19) .skip (.exit 0))) (.seq (.block (some [0,1,5,6]) 1 (.seq (.reg [⟨(some 22),(.mv (.tmp 0)),none⟩,⟨(some 23),(.mv (.tmp 6)),none⟩,⟨(some 24),(.iad 8 (.tmp 22) (.tmp 23)),none⟩,⟨(some 25),(.ld 8 true (.tmp 24)),none⟩,⟨(some 7),(.al [(.int .i64 0),(.int .i64 0),(.int .i64 0),(.int .i64 0),(.int .i64 0),(.int .i64 0),(.int .i64 0),(.int .i64 0)]),none⟩,⟨none,(.st 8 (.tmp 7) (.tmp 25)),none⟩] false [] (some [0,1,5,6,7])) (.seq (.reg [⟨(some 26),(.mv (.tmp 1)),none⟩,⟨(some 27),(.ld 8 true (.tmp 7)),none⟩,⟨(some 28),(.calv (.tmp 26) [(.tmp 27)]),none⟩,⟨(some 29),(.un .not (.tmp 28)),none⟩] false [] (some [0,1,5,6,7,29])) (.cond (.tmp 29) (.seq (.reg [⟨(some 30),(.mv (.tmp 0)),none⟩,⟨(some 31),(.mv (.tmp 5)),none⟩,⟨(some 32),(.ld 8 true (.tmp 7)),none⟩,⟨(some 33),(.iad 8 (.tmp 30) (.tmp 31)),none⟩,⟨none,(.st 8 (.tmp 33) (.tmp 32)),none⟩] false [] (some [0,1,5,6])) (.reg [⟨(some 34),(.mv (.tmp 5)),none⟩,⟨(some 35),(.bin .add (.tmp 34) (.const (.int .i64 1))),none⟩,⟨(some 5),(.mv (.tmp 35)),none⟩] false [] (some [0,1,5,6]))) .skip)))) (.reg [⟨(some 20),(.mv (.tmp 6)),none⟩,⟨(some 21),(.bin .add (.tmp 20) (.const (.int .i64 1))),none⟩,⟨(some 6),(.mv (.tmp 21)),none⟩] false [] (some [0,1,5,6]))))
def a3X:CC:=(.block (some [0,5]) 0 (.loop 2 (some [0,1,5,6]) a3W))
def a4c:CC:=(.seq (.reg [⟨(some 4),(.mv (.const (.slice none 0 0))),none⟩] false [] (some [0,1])) (.seq (.reg [⟨(some 8),(.mv (.tmp 0)),none⟩,⟨(some 9),(.mv (.tmp 1)),none⟩,⟨(some 10),(.call 187 [(.tmp 8),(.tmp 9)]),none⟩,⟨(some 5),(.mv (.tmp 10)),none⟩] false [] (some [0,1,5])) (.seq (.seq (.reg [⟨(some 11),(.mv (.tmp 5)),none⟩,⟨(some 12),(.bin .eql (.tmp 11) (.const (.int .i64 (-1)))),none⟩] false [] (some [0,1,5,12])) (.cond (.tmp 12) (.seq (.reg [⟨(some 13),(.mv (.tmp 0)),none⟩,⟨(some 4),(.mv (.tmp 13)),none⟩] false [] (some [4])) .ret) .skip)) (.seq (.seq (.reg [⟨(some 14),(.mv (.tmp 5)),none⟩,⟨(some 15),(.bin .add (.tmp 14) (.const (.int .i64 1))),none⟩,⟨(some 6),(.mv (.tmp 15)),none⟩] false [] (some [0,1,5,6])) a3X) (.seq (.reg [⟨(some 36),(.mv (.tmp 0)),none⟩,⟨(some 37),(.mv (.tmp 5)),none⟩,⟨(some 38),(.slc 8 (.tmp 36) (some (.tmp 37)) none),none⟩,⟨none,(.clr 8 (.agg [(.int .i64 0),(.int .i64 0),(.int .i64 0),(.int .i64 0),(.int .i64 0),(.int .i64 0),(.int .i64 0),(.int .i64 0)]) (.tmp 38)),none⟩] false [] (some [0,5])) (.seq (.reg [⟨(some 39),(.mv (.tmp 0)),none⟩,⟨(some 40),(.mv (.tmp 5)),none⟩,⟨(some 41),(.slc 8 (.tmp 39) none (some (.tmp 40))),none⟩,⟨(some 4),(.mv (.tmp 41)),none⟩] false [] (some [4])) .ret))))))
theorem a43:aZ Tryz.prog 165 a4c [4] 42:=aZ.of Tryz.f165 Tryz.func165 rfl
def a4b:CC:=(.seq (.reg [⟨(some 2),(.mv (.const (.slice none 0 0))),none⟩] false [] (some [0])) (.seq (.reg [⟨(some 4),(.mv (.tmp 0)),none⟩,⟨(some 5),(.lenl (.tmp 4)),none⟩,⟨(some 6),(.mks 8 64 (.agg [(.int .i64 0),(.int .i64 0),(.int .i64 0),(.int .i64 0),(.int .i64 0),(.int .i64 0),(.int .i64 0),(.int .i64 0)]) (.tmp 5) (.tmp 5)),none⟩,⟨(some 3),(.mv (.tmp 6)),none⟩] false [] (some [0,3])) (.seq (.reg [⟨(some 7),(.mv (.tmp 3)),none⟩,⟨(some 8),(.mv (.tmp 0)),none⟩,⟨(some 9),(.cpy 8 (.tmp 7) (.tmp 8)),none⟩] false [] (some [3])) (.seq (.reg [⟨(some 10),(.mv (.tmp 3)),none⟩,⟨(some 2),(.mv (.tmp 10)),none⟩] false [] (some [2])) .ret))))
theorem a42:aZ Tryz.prog 166 a4b [2] 11:=aZ.of Tryz.f166 Tryz.func166 rfl
def a5Z:{c:CC // aJ Tryz.prog 168=c}:=⟨_,by conv=>lhs;reduce⟩
def a5O:{c:CC // bA Tryz.prog 168 { fs:=false } a5Z.1 []=c}:=⟨_,by conv=>lhs;reduce⟩
def a4a:CC:=(fun (c:CC) (_:(a5O.1)=c)=>c) _ (by conv=>lhs;reduce)
theorem a41:aZ Tryz.prog 168 a4a [6] 95:=aZ.of Tryz.f168 Tryz.func168 rfl
def a5Y:{c:CC // aJ Tryz.prog 186=c}:=⟨_,by conv=>lhs;reduce⟩
def a5N:{c:CC // bA Tryz.prog 186 { fs:=false } a5Y.1 []=c}:=⟨_,by conv=>lhs;reduce⟩
def a39:CC:=(fun (c:CC) (_:(a5N.1)=c)=>c) _ (by conv=>lhs;reduce)
theorem a40:aZ Tryz.prog 186 a39 [4] 36:=aZ.of Tryz.f186 Tryz.func186 rfl
def a5X:{c:CC // aJ Tryz.prog 187=c}:=⟨_,by conv=>lhs;reduce⟩
def a4J:{c:CC // bA Tryz.prog 187 { gc:=2,fs:=false } a5X.1 []=c}:=⟨_,by conv=>lhs;reduce⟩
def a2S:CC:=(fun (c:CC) (_:(a4J.1.aV [1,0,1,0,0])=c)=>c) _ (by conv=>lhs;reduce)
def a2T:CC:=(fun (c:CC->CC) (_:(fun a0=>(a4J.1.aV [1,0,1]).aU [0,0] a0)=c)=>c) _ (by conv=>lhs;reduce) a2S
def a38:CC:=(fun (c:CC->CC) (_:(fun a0=>(a4J.1).aU [1,0,1] a0)=c)=>c) _ (by conv=>lhs;reduce) a2T
theorem a4Z:aZ Tryz.prog 187 a38 [4] 19:=aZ.of Tryz.f187 Tryz.func187 rfl
def a5W:{c:CC // aJ Tryz.prog 207=c}:=⟨_,by conv=>lhs;reduce⟩
def a4I:{c:CC // bA Tryz.prog 207 { fs:=false } a5W.1 []=c}:=⟨_,by conv=>lhs;reduce⟩
def a2Q:CC:=(fun (c:CC) (_:(a4I.1.aV [1,0,1,0,0])=c)=>c) _ (by conv=>lhs;reduce)
def a2R:CC:=(fun (c:CC->CC) (_:(fun a0=>(a4I.1.aV [1,0,1]).aU [0,0] a0)=c)=>c) _ (by conv=>lhs;reduce) a2Q
def a37:CC:=(fun (c:CC->CC) (_:(fun a0=>(a4I.1).aU [1,0,1] a0)=c)=>c) _ (by conv=>lhs;reduce) a2R
theorem a4Y:aZ Tryz.prog 207 a37 [4] 19:=aZ.of Tryz.f207 Tryz.func207 rfl
end Go.Proofs.YtakemdamegfcfaaGreat
