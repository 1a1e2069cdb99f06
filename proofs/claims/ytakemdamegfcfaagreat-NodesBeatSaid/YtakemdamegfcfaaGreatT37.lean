/- A part of a proof: what functions of the program compute. No condition. -/
import Derived.Test.YtakemdamegfcfaaGreatProg
import Derived.KernelRfl
import Derived.Test.YtakemdamegfcfaaGreatT6
import Derived.Test.YtakemdamegfcfaaGreatT10
import Derived.Test.YtakemdamegfcfaaGreatT36
set_option linter.unusedSimpArgs false
set_option linter.unusedVariables false
set_option maxHeartbeats 16000000
set_option maxRecDepth 100000
namespace Go.Proofs.YtakemdamegfcfaaGreat
open Go Go.Ab
def R17:{c:CC // aJ Tryz.prog 17=c}:=⟨_,by conv=>lhs;reduce⟩
def S17:{c:CC // bA Tryz.prog 17 { fz:=[(true,50,[50]),(true,62,[62]),(true,72,[72]),(true,91,[91]),(true,117,[117])],fs:=false } R17.1 []=c}:=⟨_,by conv=>lhs;reduce⟩
def aJT:CC:=(fun (c:CC) (_:(S17.1.aV [1,1,1,1,1,1,1,0,0,0])=c)=>c) _ (by conv=>lhs;reduce)
def aJU:CC:=(fun (c:CC->CC) (_:(fun a0=>(S17.1.aV [1,1,1,1,1,1,1,0]).aU [0,0] a0)=c)=>c) _ (by conv=>lhs;reduce) aJT
def aXS:CC:=(fun (c:CC->CC) (_:(fun a0=>(S17.1).aU [1,1,1,1,1,1,1,0] a0)=c)=>c) _ (by conv=>lhs;reduce) aJU
theorem aVA:aX Tryz.prog 17 aXS [.ce 4 41 10 true,.tm 5] 118:=aX.of Tryz.f17 Tryz.func17 rfl ⟨by kernel_rfl,trivial⟩
def R20:{c:CC // aJ Tryz.prog 20=c}:=⟨_,by conv=>lhs;reduce⟩
def S20:{c:CC // bA Tryz.prog 20 { fs:=false } R20.1 []=c}:=⟨_,by conv=>lhs;reduce⟩
def aJR:CC:=(fun (c:CC) (_:(S20.1.aV [1,1,0,1,0,0])=c)=>c) _ (by conv=>lhs;reduce)
def aJS:CC:=(fun (c:CC->CC) (_:(fun a0=>(S20.1.aV [1,1,0,1]).aU [0,0] a0)=c)=>c) _ (by conv=>lhs;reduce) aJR
def aXQ:CC:=(fun (c:CC->CC) (_:(fun a0=>(S20.1).aU [1,1,0,1] a0)=c)=>c) _ (by conv=>lhs;reduce) aJS
theorem aVy:aX Tryz.prog 20 aXQ [.ce 4 27 2 true] 28:=aX.of Tryz.f20 Tryz.func20 rfl ⟨by kernel_rfl,trivial⟩
def R21:{c:CC // aJ Tryz.prog 21=c}:=⟨_,by conv=>lhs;reduce⟩
def S21:{c:CC // bA Tryz.prog 21 { fs:=false } R21.1 []=c}:=⟨_,by conv=>lhs;reduce⟩
def aXP:CC:=(fun (c:CC) (_:(S21.1)=c)=>c) _ (by conv=>lhs;reduce)
theorem aVx:aX Tryz.prog 21 aXP [.ce 4 27 2 true] 40:=aX.of Tryz.f21 Tryz.func21 rfl ⟨by kernel_rfl,trivial⟩
def R23:{c:CC // aJ Tryz.prog 23=c}:=⟨_,by conv=>lhs;reduce⟩
def S23:{c:CC // bA Tryz.prog 23 { fs:=false } R23.1 []=c}:=⟨_,by conv=>lhs;reduce⟩
def aXO:CC:=(fun (c:CC) (_:(S23.1)=c)=>c) _ (by conv=>lhs;reduce)
theorem aVw:aX Tryz.prog 23 aXO [.ce 4 29 8 true,.tm 5] 18:=aX.of Tryz.f23 Tryz.func23 rfl ⟨by kernel_rfl,trivial⟩
def R59:{c:CC // aJ Tryz.prog 59=c}:=⟨_,by conv=>lhs;reduce⟩
def S59:{c:CC // bA Tryz.prog 59 { fs:=false } R59.1 [([1,0],(.f [0,1,4,5,2,6,2003,8,9,7,10,11,12,13])),([1,1,0,1,0,0,1,1,0,0,1],(.f [0,1,3,4,2,5,2006,7,8,9])),([1,1,1,0],(.p [0,3,6,9,1] (.p [2,4] (.p [5,7] (.f [8,10,12,11,13,14,15,16,17,18,19]) (.f [10,12,8,11,13,14,15,16,17,18,19])) (.p [] (.p [7] (.p [5] (.f [8,10,12,11,13,14,15,16,17,18,19]) (.f [10,12,8,11,13,14,15,16,17,18,19])) (.f [10,12,5,8,11,13,14,15,16,17,18,19])) (.p [10] (.f [5,7,12,8,11,13,14,15,16,17,18,19]) (.f [7,12,5,8,11,13,14,15,16,17,18,19])))) (.p [] (.p [4] (.p [2] (.p [5,7] (.f [8,10,12,11,13,14,15,16,17,18,19]) (.f [10,12,8,11,13,14,15,16,17,18,19])) (.p [] (.p [7] (.p [5] (.f [8,10,12,11,13,14,15,16,17,18,19]) (.f [10,12,8,11,13,14,15,16,17,18,19])) (.f [10,12,5,8,11,13,14,15,16,17,18,19])) (.p [10] (.f [5,7,12,8,11,13,14,15,16,17,18,19]) (.f [7,12,5,8,11,13,14,15,16,17,18,19])))) (.p [] (.p [7] (.p [2] (.p [5] (.f [8,10,12,11,13,14,15,16,17,18,19]) (.f [10,12,8,11,13,14,15,16,17,18,19])) (.f [10,12,5,8,11,13,14,15,16,17,18,19])) (.f [10,2,12,5,8,11,13,14,15,16,17,18,19])) (.p [10] (.p [2] (.f [5,7,12,8,11,13,14,15,16,17,18,19]) (.f [7,12,5,8,11,13,14,15,16,17,18,19])) (.f [7,2,12,5,8,11,13,14,15,16,17,18,19])))) (.p [] (.p [7] (.p [2,4] (.p [5] (.f [8,10,12,11,13,14,15,16,17,18,19]) (.f [10,12,8,11,13,14,15,16,17,18,19])) (.f [10,12,5,8,11,13,14,15,16,17,18,19])) (.p [] (.p [4] (.p [2] (.p [5] (.f [8,10,12,11,13,14,15,16,17,18,19]) (.f [10,12,8,11,13,14,15,16,17,18,19])) (.f [10,12,5,8,11,13,14,15,16,17,18,19])) (.f [10,2,12,5,8,11,13,14,15,16,17,18,19])) (.p [10] (.f [2,4,12,5,8,11,13,14,15,16,17,18,19]) (.f [4,2,12,5,8,11,13,14,15,16,17,18,19])))) (.p [10] (.p [2,4] (.f [5,7,12,8,11,13,14,15,16,17,18,19]) (.f [7,12,5,8,11,13,14,15,16,17,18,19])) (.p [] (.p [4] (.p [2] (.f [5,7,12,8,11,13,14,15,16,17,18,19]) (.f [7,12,5,8,11,13,14,15,16,17,18,19])) (.f [7,2,12,5,8,11,13,14,15,16,17,18,19])) (.p [7] (.f [2,4,12,5,8,11,13,14,15,16,17,18,19]) (.f [4,2,12,5,8,11,13,14,15,16,17,18,19])))))))),([1,1,1,1,1,0,1,0,0,1,1,0,0,1,0],(.f [0,3,6,9,12,1,4,7,10,13,2002,15,2005,2008,2011,2014,16,17,18,19,20,21,22,23,24]))]=c}:=⟨_,by conv=>lhs;reduce⟩
def aJj:CC:=(fun (c:CC) (_:(S59.1.aV [1,1,1,1,1,0,1,0,0])=c)=>c) _ (by conv=>lhs;reduce)
def aJm:CC:=(fun (c:CC->CC) (_:(fun a0=>(S59.1.aV [1,1,1,1,1,0,1]).aU [0,0] a0)=c)=>c) _ (by conv=>lhs;reduce) aJj
def aB2:CC:=(fun (c:CC->CC) (_:(fun a0=>(S59.1.aV [1,1,1,1]).aU [1,0,1] a0)=c)=>c) _ (by conv=>lhs;reduce) aJm
def aB3:CC:=(fun (c:CC->CC) (_:(fun a0=>(S59.1.aV [1,1,1]).aU [1] a0)=c)=>c) _ (by conv=>lhs;reduce) aB2
def aJi:CC:=(fun (c:CC) (_:(S59.1.aV [1,1,0,1,0,0])=c)=>c) _ (by conv=>lhs;reduce)
def aJl:CC:=(fun (c:CC->CC) (_:(fun a0=>(S59.1.aV [1,1,0,1]).aU [0,0] a0)=c)=>c) _ (by conv=>lhs;reduce) aJi
def aJk:CC:=(fun (c:CC->CC->CC) (_:(fun a0 a1=>((S59.1.aV [1]).aU [1,0,1] a0).aU [1,1] a1)=c)=>c) _ (by conv=>lhs;reduce) aJl aB3
def aXw:CC:=(fun (c:CC->CC) (_:(fun a0=>(S59.1).aU [1] a0)=c)=>c) _ (by conv=>lhs;reduce) aJk
theorem aVj:aX Tryz.prog 59 aXw [.ce 2 41 10 true] 93:=aX.of Tryz.f59 Tryz.func59 rfl ⟨by kernel_rfl,trivial⟩
def R60:{c:CC // aJ Tryz.prog 60=c}:=⟨_,by conv=>lhs;reduce⟩
def S60:{c:CC // bA Tryz.prog 60 { fs:=false } R60.1 []=c}:=⟨_,by conv=>lhs;reduce⟩
def aSQ:CC:=(fun (c:CC) (_:(S60.1)=c)=>c) _ (by conv=>lhs;reduce)
theorem aVE:aZ Tryz.prog 60 aSQ [4] 10:=aZ.of Tryz.f60 Tryz.func60 rfl
def R61:{c:CC // aJ Tryz.prog 61=c}:=⟨_,by conv=>lhs;reduce⟩
def S61:{c:CC // bA Tryz.prog 61 { fs:=false } R61.1 []=c}:=⟨_,by conv=>lhs;reduce⟩
def aSP:CC:=(fun (c:CC) (_:(S61.1)=c)=>c) _ (by conv=>lhs;reduce)
theorem aVD:aZ Tryz.prog 61 aSP [4] 12:=aZ.of Tryz.f61 Tryz.func61 rfl
def aXv:CC:=(.seq (.reg [⟨(some 6),(.mv (.const (.slice none 0 0))),none⟩] false [] (some [0,1,2])) (.seq (.reg [⟨(some 10),(.mv (.tmp 0)),none⟩,⟨(some 11),(.mv (.tmp 1)),none⟩,⟨(some 12),(.slc 8 (.tmp 10) (some (.tmp 11)) none),none⟩] false [] (some [0,1,2])) (.seq (.reg [⟨(some 13),(.mv (.tmp 2)),none⟩,⟨(some 14),(.lenl (.tmp 13)),none⟩,⟨(some 7),(.mv (.tmp 14)),none⟩] false [] (some [0,1,2,7])) (.seq (.seq (.reg [⟨(some 15),(.mv (.tmp 7)),none⟩,⟨(some 16),(.bin .eql (.tmp 15) (.const (.int .i64 0))),none⟩] false [] (some [0,1,2,7,16])) (.cond (.tmp 16) (.seq (.reg [⟨(some 17),(.mv (.tmp 0)),none⟩,⟨(some 6),(.mv (.tmp 17)),none⟩] false [6] (some [6])) .ret) .skip)) (.seq (.reg [⟨(some 18),(.mv (.tmp 0)),none⟩,⟨(some 19),(.lenl (.tmp 18)),none⟩,⟨(some 8),(.mv (.tmp 19)),none⟩] false [] (some [0,1,2,7,8])) (.seq (.seq (.reg [⟨(some 20),(.mv (.tmp 1)),none⟩,⟨(some 21),(.mv (.tmp 8)),none⟩,⟨(some 22),(.bin .eql (.tmp 20) (.tmp 21)),none⟩] false [] (some [0,1,2,7,8,22])) (.cond (.tmp 22) (.seq (.reg [⟨(some 23),(.mv (.tmp 0)),none⟩,⟨(some 24),(.mv (.tmp 2)),none⟩,⟨(some 25),(.app 8 64 (.tmp 23) (.tmp 24)),none⟩,⟨(some 6),(.mv (.tmp 25)),none⟩] false [6] (some [6])) .ret) .skip)) (.seq (.seq (.reg [⟨(some 26),(.mv (.tmp 8)),none⟩,⟨(some 27),(.mv (.tmp 7)),none⟩,⟨(some 28),(.bin .add (.tmp 26) (.tmp 27)),none⟩,⟨(some 29),(.mvx (.tmp 0)),none⟩,⟨(some 30),(.capl (.tmp 29)),none⟩,⟨(some 31),(.bin .gtr (.tmp 28) (.tmp 30)),none⟩] false [] (some [0,1,2,7,8,29,31])) (.cond (.tmp 31) (.seq (.reg [⟨(some 32),(.mv (.tmp 0)),none⟩,⟨(some 33),(.mv (.tmp 1)),none⟩,⟨(some 34),(.slc 8 (.tmp 32) none (some (.tmp 33))),none⟩,⟨(some 35),(.mv (.tmp 8)),none⟩,⟨(some 36),(.mv (.tmp 7)),none⟩,⟨(some 37),(.bin .add (.tmp 35) (.tmp 36)),none⟩,⟨(some 38),(.mv (.tmp 1)),none⟩,⟨(some 39),(.bin .sub (.tmp 37) (.tmp 38)),none⟩,⟨(some 40),(.agz 8 64 (.agg [(.int .i64 0),(.int .i64 0),(.int .i64 0),(.int .i64 0),(.int .i64 0),(.int .i64 0),(.int .i64 0),(.bool false)]) (.tmp 34) (.tmp 39) (.tmp 29)),none⟩,⟨(some 9),(.mv (.tmp 40)),none⟩] false [] (some [0,1,2,7,9])) (.seq (.reg [⟨(some 41),(.mv (.tmp 9)),none⟩,⟨(some 42),(.mv (.tmp 1)),none⟩,⟨(some 43),(.slc 8 (.tmp 41) (some (.tmp 42)) none),none⟩,⟨(some 44),(.mv (.tmp 2)),none⟩,⟨(some 45),(.cpy 8 (.tmp 43) (.tmp 44)),none⟩] false [] (some [0,1,7,9])) (.seq (.reg [⟨(some 46),(.mv (.tmp 9)),none⟩,⟨(some 47),(.mv (.tmp 1)),none⟩,⟨(some 48),(.mv (.tmp 7)),none⟩,⟨(some 49),(.bin .add (.tmp 47) (.tmp 48)),none⟩,⟨(some 50),(.slc 8 (.tmp 46) (some (.tmp 49)) none),none⟩,⟨(some 51),(.mv (.tmp 0)),none⟩,⟨(some 52),(.mv (.tmp 1)),none⟩,⟨(some 53),(.slc 8 (.tmp 51) (some (.tmp 52)) none),none⟩,⟨(some 54),(.cpy 8 (.tmp 50) (.tmp 53)),none⟩] true [] (some [9])) (.seq (.reg [⟨(some 55),(.mv (.tmp 9)),none⟩,⟨(some 6),(.mv (.tmp 55)),none⟩] false [6] (some [6])) .ret)))) .skip)) (.seq (.reg [⟨(some 56),(.mv (.tmp 0)),none⟩,⟨(some 57),(.mv (.tmp 8)),none⟩,⟨(some 58),(.mv (.tmp 7)),none⟩,⟨(some 59),(.bin .add (.tmp 57) (.tmp 58)),none⟩,⟨(some 60),(.sle 8 (.tmp 56) none (some (.tmp 59))),none⟩,⟨(some 0),(.mv (.tmp 60)),none⟩] false [] (some [0,1,2,7,8])) (.seq (.seq (.reg [⟨(some 61),(.mv (.tmp 2)),none⟩,⟨(some 62),(.mv (.tmp 0)),none⟩,⟨(some 63),(.mv (.tmp 1)),none⟩,⟨(some 64),(.mv (.tmp 7)),none⟩,⟨(some 65),(.bin .add (.tmp 63) (.tmp 64)),none⟩,⟨(some 66),(.slc 8 (.tmp 62) (some (.tmp 65)) none),none⟩,⟨(some 67),(.xcl 127 [(.tmp 61),(.tmp 66)]),none⟩,⟨(some 68),(.un .not (.tmp 67)),none⟩] false [] (some [0,1,2,7,8,68])) (.cond (.tmp 68) (.seq (.reg [⟨(some 69),(.mv (.tmp 0)),none⟩,⟨(some 70),(.mv (.tmp 1)),none⟩,⟨(some 71),(.mv (.tmp 7)),none⟩,⟨(some 72),(.bin .add (.tmp 70) (.tmp 71)),none⟩,⟨(some 73),(.slc 8 (.tmp 69) (some (.tmp 72)) none),none⟩,⟨(some 74),(.mv (.tmp 0)),none⟩,⟨(some 75),(.mv (.tmp 1)),none⟩,⟨(some 76),(.slc 8 (.tmp 74) (some (.tmp 75)) none),none⟩,⟨(some 77),(.cpy 8 (.tmp 73) (.tmp 76)),none⟩] true [] (some [0,1,2])) (.seq (.reg [⟨(some 78),(.mv (.tmp 0)),none⟩,⟨(some 79),(.mv (.tmp 1)),none⟩,⟨(some 80),(.slc 8 (.tmp 78) (some (.tmp 79)) none),none⟩,⟨(some 81),(.mv (.tmp 2)),none⟩,⟨(some 82),(.cpy 8 (.tmp 80) (.tmp 81)),none⟩] false [] (some [0])) (.seq (.reg [⟨(some 83),(.mv (.tmp 0)),none⟩,⟨(some 6),(.mv (.tmp 83)),none⟩] false [6] (some [6])) .ret))) .skip)) (.seq (.reg [⟨(some 84),(.mv (.tmp 0)),none⟩,⟨(some 85),(.mv (.tmp 8)),none⟩,⟨(some 86),(.slc 8 (.tmp 84) (some (.tmp 85)) none),none⟩,⟨(some 87),(.mv (.tmp 2)),none⟩,⟨(some 88),(.cpy 8 (.tmp 86) (.tmp 87)),none⟩] false [] (some [0,1,7])) (.seq (.reg [⟨(some 89),(.mv (.tmp 0)),none⟩,⟨(some 90),(.mv (.tmp 1)),none⟩,⟨(some 91),(.slc 8 (.tmp 89) (some (.tmp 90)) none),none⟩,⟨(some 92),(.mv (.tmp 7)),none⟩,⟨(some 93),(.call 128 [(.tmp 91),(.tmp 92)]),none⟩] false [] (some [0])) (.seq (.reg [⟨(some 94),(.mv (.tmp 0)),none⟩,⟨(some 6),(.mv (.tmp 94)),none⟩] false [6] (some [6])) .ret))))))))))))
theorem aYU:aZ Tryz.prog 62 aXv [6] 95:=aZ.of Tryz.f62 Tryz.func62 rfl
def R67:{c:CC // aJ Tryz.prog 67=c}:=⟨_,by conv=>lhs;reduce⟩
def S67:{c:CC // bA Tryz.prog 67 { fs:=false } R67.1 []=c}:=⟨_,by conv=>lhs;reduce⟩
def aXs:CC:=(fun (c:CC) (_:(S67.1)=c)=>c) _ (by conv=>lhs;reduce)
theorem aVh:aX Tryz.prog 67 aXs [.ce 4 27 2 true,.tm 5] 29:=aX.of Tryz.f67 Tryz.func67 rfl ⟨by kernel_rfl,trivial⟩
def a1z:{c:CC // aJ Tryz.prog 115=c}:=⟨_,by conv=>lhs;reduce⟩
def aZT:{c:CC // bA Tryz.prog 115 { fs:=false } a1z.1 []=c}:=⟨_,by conv=>lhs;reduce⟩
def aPX:CC:=(fun (c:CC) (_:(aZT.1)=c)=>c) _ (by conv=>lhs;reduce)
theorem aWI:aZ Tryz.prog 115 aPX [2] 8:=aZ.of Tryz.f115 Tryz.func115 rfl
def aPW:CC:=(.seq (.reg [⟨(some 2),(.mv (.const (.slice none 0 0))),none⟩] false [] (some [0])) (.seq (.seq (.reg [⟨(some 3),(.mv (.tmp 0)),none⟩,⟨(some 4),(.isn 1 false (.tmp 3) (.const (.slice none 0 0))),none⟩] false [] (some [0,4])) (.cond (.tmp 4) (.seq (.reg [⟨(some 2),(.mv (.const (.slice none 0 0))),none⟩] false [] (some [2])) .ret) .skip)) (.seq (.reg [⟨(some 5),(.bls 3 0 (.agg [(.str []),.aD,(.int .i64 0)]) []),none⟩,⟨(some 6),(.mv (.tmp 0)),none⟩,⟨(some 7),(.app 3 48 (.tmp 5) (.tmp 6)),none⟩,⟨(some 2),(.mv (.tmp 7)),none⟩] false [] (some [2])) .ret)))
theorem aWH:aZ Tryz.prog 116 aPW [2] 8:=aZ.of Tryz.f116 Tryz.func116 rfl
def a1y:{c:CC // aJ Tryz.prog 117=c}:=⟨_,by conv=>lhs;reduce⟩
def aZS:{c:CC // bA Tryz.prog 117 { fs:=false } a1y.1 []=c}:=⟨_,by conv=>lhs;reduce⟩
def aPV:CC:=(fun (c:CC) (_:(aZS.1)=c)=>c) _ (by conv=>lhs;reduce)
theorem aWG:aZ Tryz.prog 117 aPV [2] 8:=aZ.of Tryz.f117 Tryz.func117 rfl
def aPU:CC:=(.seq (.reg [⟨(some 2),(.mv (.const (.slice none 0 0))),none⟩] false [] (some [0])) (.seq (.seq (.reg [⟨(some 3),(.mv (.tmp 0)),none⟩,⟨(some 4),(.isn 1 false (.tmp 3) (.const (.slice none 0 0))),none⟩] false [] (some [0,4])) (.cond (.tmp 4) (.seq (.reg [⟨(some 2),(.mv (.const (.slice none 0 0))),none⟩] false [] (some [2])) .ret) .skip)) (.seq (.reg [⟨(some 5),(.bls 8 0 (.agg [(.int .i64 0),(.int .i64 0),(.int .i64 0),(.int .i64 0),(.int .i64 0),(.int .i64 0),(.int .i64 0),(.bool false)]) []),none⟩,⟨(some 6),(.mv (.tmp 0)),none⟩,⟨(some 7),(.app 8 64 (.tmp 5) (.tmp 6)),none⟩,⟨(some 2),(.mv (.tmp 7)),none⟩] false [] (some [2])) .ret)))
theorem aWF:aZ Tryz.prog 118 aPU [2] 8:=aZ.of Tryz.f118 Tryz.func118 rfl
def a1x:{c:CC // aJ Tryz.prog 119=c}:=⟨_,by conv=>lhs;reduce⟩
def aZR:{c:CC // bA Tryz.prog 119 { fs:=false } a1x.1 []=c}:=⟨_,by conv=>lhs;reduce⟩
def aPT:CC:=(fun (c:CC) (_:(aZR.1)=c)=>c) _ (by conv=>lhs;reduce)
theorem aWE:aZ Tryz.prog 119 aPT [2] 8:=aZ.of Tryz.f119 Tryz.func119 rfl
def a1w:{c:CC // aJ Tryz.prog 120=c}:=⟨_,by conv=>lhs;reduce⟩
def aZQ:{c:CC // bA Tryz.prog 120 { fs:=false } a1w.1 []=c}:=⟨_,by conv=>lhs;reduce⟩
def aPS:CC:=(fun (c:CC) (_:(aZQ.1)=c)=>c) _ (by conv=>lhs;reduce)
theorem aWD:aZ Tryz.prog 120 aPS [2] 8:=aZ.of Tryz.f120 Tryz.func120 rfl
def a1v:{c:CC // aJ Tryz.prog 121=c}:=⟨_,by conv=>lhs;reduce⟩
def aZP:{c:CC // bA Tryz.prog 121 { fs:=false } a1v.1 []=c}:=⟨_,by conv=>lhs;reduce⟩
def aPR:CC:=(fun (c:CC) (_:(aZP.1)=c)=>c) _ (by conv=>lhs;reduce)
theorem aWC:aZ Tryz.prog 121 aPR [2] 8:=aZ.of Tryz.f121 Tryz.func121 rfl
def aPQ:CC:=(.seq (.reg [⟨(some 2),(.mv (.const (.slice none 0 0))),none⟩] false [] (some [0])) (.seq (.seq (.reg [⟨(some 3),(.mv (.tmp 0)),none⟩,⟨(some 4),(.isn 1 false (.tmp 3) (.const (.slice none 0 0))),none⟩] false [] (some [0,4])) (.cond (.tmp 4) (.seq (.reg [⟨(some 2),(.mv (.const (.slice none 0 0))),none⟩] false [] (some [2])) .ret) .skip)) (.seq (.reg [⟨(some 5),(.bls 14 0 (.agg [(.int .i64 0),(.int .i64 0),(.str []),(.int .i64 0),(.int .i64 0),(.int .i64 0),(.int .i64 0),.aD,(.int .i64 0),(.int .i64 0),.aD,.aD,.aD,.aD]) []),none⟩,⟨(some 6),(.mv (.tmp 0)),none⟩,⟨(some 7),(.app 14 200 (.tmp 5) (.tmp 6)),none⟩,⟨(some 2),(.mv (.tmp 7)),none⟩] false [] (some [2])) .ret)))
theorem aWB:aZ Tryz.prog 122 aPQ [2] 8:=aZ.of Tryz.f122 Tryz.func122 rfl
def a1u:{c:CC // aJ Tryz.prog 123=c}:=⟨_,by conv=>lhs;reduce⟩
def aZO:{c:CC // bA Tryz.prog 123 { fs:=false } a1u.1 []=c}:=⟨_,by conv=>lhs;reduce⟩
def aPP:CC:=(fun (c:CC) (_:(aZO.1)=c)=>c) _ (by conv=>lhs;reduce)
theorem aWA:aZ Tryz.prog 123 aPP [2] 8:=aZ.of Tryz.f123 Tryz.func123 rfl
def a1t:{c:CC // aJ Tryz.prog 124=c}:=⟨_,by conv=>lhs;reduce⟩
def aZN:{c:CC // bA Tryz.prog 124 { fs:=false } a1t.1 []=c}:=⟨_,by conv=>lhs;reduce⟩
def aPO:CC:=(fun (c:CC) (_:(aZN.1)=c)=>c) _ (by conv=>lhs;reduce)
theorem aWz:aZ Tryz.prog 124 aPO [2] 11:=aZ.of Tryz.f124 Tryz.func124 rfl
def a1s:{c:CC // aJ Tryz.prog 125=c}:=⟨_,by conv=>lhs;reduce⟩
def aT7:{c:CC // bA Tryz.prog 125 { fs:=false } a1s.1 []=c}:=⟨_,by conv=>lhs;reduce⟩
def aEl:CC:=(fun (c:CC) (_:(aT7.1.aV [1,0,1,0,0])=c)=>c) _ (by conv=>lhs;reduce)
def aEm:CC:=(fun (c:CC->CC) (_:(fun a0=>(aT7.1.aV [1,0,1]).aU [0,0] a0)=c)=>c) _ (by conv=>lhs;reduce) aEl
def aPN:CC:=(fun (c:CC->CC) (_:(fun a0=>(aT7.1).aU [1,0,1] a0)=c)=>c) _ (by conv=>lhs;reduce) aEm
theorem aWy:aZ Tryz.prog 125 aPN [4] 19:=aZ.of Tryz.f125 Tryz.func125 rfl
def a1r:{c:CC // aJ Tryz.prog 126=c}:=⟨_,by conv=>lhs;reduce⟩
def aZM:{c:CC // bA Tryz.prog 126 { fs:=false } a1r.1 []=c}:=⟨_,by conv=>lhs;reduce⟩
def aPM:CC:=(fun (c:CC) (_:(aZM.1)=c)=>c) _ (by conv=>lhs;reduce)
theorem aWx:aZ Tryz.prog 126 aPM [4] 9:=aZ.of Tryz.f126 Tryz.func126 rfl
def a1q:{c:CC // aJ Tryz.prog 130=c}:=⟨_,by conv=>lhs;reduce⟩
def aZL:{c:CC // bA Tryz.prog 130 { fs:=false } a1q.1 []=c}:=⟨_,by conv=>lhs;reduce⟩
def aPL:CC:=(fun (c:CC) (_:(aZL.1)=c)=>c) _ (by conv=>lhs;reduce)
theorem aWw:aZ Tryz.prog 130 aPL [2] 21:=aZ.of Tryz.f130 Tryz.func130 rfl
def a1p:{c:CC // aJ Tryz.prog 131=c}:=⟨_,by conv=>lhs;reduce⟩
def aZK:{c:CC // bA Tryz.prog 131 { fs:=false } a1p.1 []=c}:=⟨_,by conv=>lhs;reduce⟩
def aPK:CC:=(fun (c:CC) (_:(aZK.1)=c)=>c) _ (by conv=>lhs;reduce)
theorem aR4:aX Tryz.prog 131 aPK [.ce 2 27 2 true,.tm 3] 9:=aX.of Tryz.f131 Tryz.func131 rfl ⟨by kernel_rfl,trivial⟩
end Go.Proofs.YtakemdamegfcfaaGreat
