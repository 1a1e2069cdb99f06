/- What functions of the program compute. No condition. -/
import Derived.Test.YtcplpegahpmnjaaDoorU38
import Derived.Test.YtcplpegahpmnjaaDoorL4
import Derived.Test.YtcplpegahpmnjaaDoorCards
import Derived.Test.YtcplpegahpmnjaaDoorTie
import Derived.KernelRfl
import Derived.ProofKit
import Derived.JoinedTies
import Derived.LaidMore
import Derived.Lay
import Derived.SevenTiedAt
set_option linter.unusedVariables false
namespace Go.Proofs.YtcplpegahpmnjaaDoor.ruleSums
open Go Go.Ab Go.RowKit
theorem own : ownKnob Tryd.prog.godebug = none := by kernel_rfl
theorem fits : laidOutB Tryd.prog = true := by kernel_rfl
theorem answers : ∀ (H : Type) (ds : List (DataW H)), ds.length = Tryd.f3.params.toList.length → Rows.ruleSumsSpec.fn H ds = ⟨[.lit (.bool true)], ds, []⟩ := by
  intro H ds h
  rw [Tryd.params3] at h
  match ds, h with
  | [d0, d1, d2, d3], _ => rfl
set_option maxRecDepth 100000 in
theorem lifted (os : Os) (started : os.Started) (H : Type) (enc : TypeId × Value → H) :
    ReturnsInHanded {} Tryd.checked os 3 .any (fun w args => (Rows.ruleSumsSpec.pre enc Tryd.prog Tryd.f3 Rows.ruleSumsRow.domain false w args ∧ laidMetH Tryd.prog Rows.ruleSumsRow.laid w) ∧ sizedMet enc Tryd.prog Tryd.f3 (OpenSpec.ofChange Rows.ruleSumsSpec) false w args)
      (Rows.ruleSumsSpec.post enc Tryd.prog Tryd.f3 false true false false) := by
  refine returnsInHanded_of_change_and (C := Tryd.checked) (X := fun w _ => laidMetH Tryd.prog Rows.ruleSumsRow.laid w) (fun _ _ _ hh h => h.of_heap hh) own started (by kernel_rfl) Tryd.func3
    (ChangeSpec.witness_shaped (enc := enc) (C := Tryd.checked) (os := os) (X := fun w _ => laidMetH Tryd.prog Rows.ruleSumsRow.laid w) false (World.laidAll Tryd.prog os Rows.ruleSumsRow.laid) #[.int .i64 0, .slice none 0 0, .int .i64 0, .int .i64 0] 8 (World.laidAll_os _ _ _)
      (World.shaped_of_ZipB (by kernel_rfl) (by kernel_rfl)) (by kernel_rfl) (by kernel_rfl) (by kernel_rfl)
      (by rw [MakeChecks.laidMetH_plain _ _ _ (by kernel_rfl)]; exact laidMet_laidAll _ (by kernel_rfl) (by kernel_rfl))) ?_
  intro W base args ds gs before hval hW _ _ _ _
  have hR := (readsA_cons (reads_i64 Tryd.underlying3) (.inl ⟨by kernel_rfl, fun _ => rfl⟩) (readsA_cons (reads_ints Tryd.underlying22 Tryd.underlying3 (by kernel_rfl)) (.inl ⟨by kernel_rfl, fun _ => rfl⟩) (readsA_cons (reads_i64 Tryd.underlying3) (.inl ⟨by kernel_rfl, fun _ => rfl⟩) (readsA_cons (reads_i64 Tryd.underlying3) (.inl ⟨by kernel_rfl, fun _ => rfl⟩) readsA_nil))))
  exact law_step (fn := Tryd.f3) (tb := 4) (by rw [Tryd.params3]) hR rfl answers (by kernel_rfl) Tryd.underlying4 fits (by kernel_rfl) (fun a h => sums_law a.1 a.2.1 h.2.1.2 a.2.2.1 a.2.2.2.1) hval hW
theorem over : Rows.ruleSumsRow.holds Tryd.pinned (OpenSpec.ofChange Rows.ruleSumsSpec) :=
  OpenClaim.holds_of_wide 3 Tryd.f3 rfl rfl rfl rfl rfl rfl rfl ⟨rfl, rfl, rfl, rfl, rfl⟩ rfl rfl rfl rfl rfl (by kernel_rfl) Tryd.func3 (by kernel_rfl)
    (of_decide_eq_true (by kernel_rfl)) (by unfold Func.isWrapper; first | (rw [if_pos (by decide +kernel)]; kernel_rfl) | (rw [if_neg (by decide +kernel)]; exact ⟨rfl, rfl⟩))
    (fun os started H enc _ => lifted os started H enc)
theorem proved : Rows.RuleSumsCardSaid :=
  Claim7.holds_tied_plain_at .later [] [.data, .pinned] true (true, "4f65ce3a3a0e6af681f8672289e90af37e36e70264ecdfef7c76bb1df76dc5cc") false over (fun _ h => by cases h) (by kernel_rfl) (fun _ h => by cases h) ruleSums_row_tie rfl ⟨rfl, rfl⟩ (by kernel_rfl) rfl
    (fun f fn hf hfn => by
      obtain rfl : f = 3 := Option.some.inj ((show Tryd.prog.funcNamed "dispatch/dispatchlaw6.RuleSums" = some 3 by kernel_rfl).symm.trans hf) |>.symm
      obtain rfl : fn = Tryd.f3 := (Option.some.inj (Tryd.func3.symm.trans hfn)).symm
      exact ⟨by kernel_rfl, fun j t ht => by
        rw [Tryd.params3] at ht
        have hm : t ∈ [3, 22] := by have h0 := Array.mem_of_getElem? ht; simp at h0; rcases h0 with rfl | rfl | rfl | rfl <;> simp
        have hall : ([3, 22].all fun u => !Tryd.prog.wantsStandIn u) = true := by kernel_rfl
        exact (show Tryd.prog.wantsStandIn t = false by simpa using List.all_eq_true.1 hall t hm)⟩)
    (by kernel_rfl)
end Go.Proofs.YtcplpegahpmnjaaDoor.ruleSums
