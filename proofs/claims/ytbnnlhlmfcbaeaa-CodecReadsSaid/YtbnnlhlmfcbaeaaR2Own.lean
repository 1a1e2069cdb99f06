/- What functions of the program compute. No condition. -/
import Derived.Test.YtbnnlhlmfcbaeaaProg
import Derived.KernelRfl
import Derived.Test.YtbnnlhlmfcbaeaaL3
set_option maxRecDepth 100000
namespace Go.Proofs.Ytbnnlhlmfcbaeaa
open Go Go.Ab
namespace Own
def cc10 : CC := (.seq (.reg [⟨(some 4), (.mv (.const (.slice none 0 0))), none⟩] false [] (some [0, 1])) (.seq (.cat (.reg [⟨(some 5), (.mv (.tmp 0)), none⟩, ⟨(some 6), (.mv (.tmp 1)), none⟩, ⟨(some 7), (.call 31 [(.tmp 6), (.const (.int .i64 8))]), none⟩] false [5, 7] (some [5, 7])) (.cat (.reg [⟨(some 8), (.bls 1 2 .nils [(0, (.tmp 5)), (1, (.tmp 7))]), none⟩] false [8] (some [8])) (.reg [⟨(some 9), (.call 30 [(.tmp 8)]), none⟩, ⟨(some 4), (.mv (.tmp 9)), none⟩] false [] (some [4])))) .ret))
theorem is10 : FnIs Try.prog 10 cc10 [4] 10 := FnIs.mk (by kernel_rfl) ⟨Try.f10, _, Try.func10, rfl, by kernel_rfl, by kernel_rfl, by kernel_rfl, by kernel_rfl, by kernel_rfl⟩
end Own
end Go.Proofs.Ytbnnlhlmfcbaeaa
