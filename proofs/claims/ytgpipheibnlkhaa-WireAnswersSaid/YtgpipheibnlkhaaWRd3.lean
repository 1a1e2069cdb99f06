/- What functions of the program compute. No condition. -/
import Derived.Test.YtgpipheibnlkhaaWRd2
set_option linter.unusedSimpArgs false
set_option linter.unusedVariables false
namespace Go.Proofs.Ytgpipheibnlkhaa
open Go Go.Ab

theorem fold_lt : ∀ (l : List UInt8) (c : BitVec 64) (k : Nat), k + l.length ≤ 7 → c.toNat < 2 ^ (8 * k) → (l.foldl (fun (c : BitVec 64) (b : UInt8) => (c <<< 8) ||| BitVec.ofInt 64 (b.toNat : Int)) c).toNat < 2 ^ (8 * (k + l.length))
  | [], c, k, _, h => by simpa using h
  | b :: l, c, k, hk, h => by
    simp only [List.length_cons] at hk
    rw [List.foldl_cons]
    have h2 : ((c <<< 8) ||| BitVec.ofInt 64 (b.toNat : Int)).toNat < 2 ^ (8 * (k + 1)) := by
      rw [BitVec.toNat_or, BitVec.toNat_shiftLeft]
      refine Nat.or_lt_two_pow (Nat.lt_of_le_of_lt (Nat.mod_le _ _) ?_) ?_
      · rw [Nat.shiftLeft_eq, show 8 * (k + 1) = 8 * k + 8 by omega, Nat.pow_add]
        exact Nat.mul_lt_mul_of_pos_right h (by decide)
      · have e : (BitVec.ofInt 64 (b.toNat : Int)).toNat = b.toNat := by
          have := b.toNat_lt
          simp [BitVec.toNat_ofInt]
        rw [e]
        have : 2 ^ 8 ≤ 2 ^ (8 * (k + 1)) := Nat.pow_le_pow_right (by decide) (by omega)
        have := b.toNat_lt
        omega
    have := fold_lt l _ (k + 1) (by omega) h2
    rw [List.length_cons, show k + (l.length + 1) = k + 1 + l.length by omega]
    exact this

theorem num_two (l : List UInt8) (h : l.length ≤ 2) : ∃ n : Nat, num l = (n : Int) ∧ n < 65536 := by
  have h1 := fold_lt l 0 0 (by omega) (by simp)
  have h2 : (numB l).toNat < 65536 := by
    refine Nat.lt_of_lt_of_le h1 ?_
    have : 2 ^ (8 * (0 + l.length)) ≤ 2 ^ 16 := Nat.pow_le_pow_right (by decide) (by omega)
    simpa using this
  exact ⟨(numB l).toNat, by unfold num; rw [wrap_i64 (by omega) (by omega)], h2⟩

def textR (s : RS) : List UInt8 × RS :=
  if s.e = 0 then (if 2 ≤ s.b.length then (if (num (s.b.take 2)).toNat ≤ (s.b.drop 2).length then ((s.b.drop 2).take (num (s.b.take 2)).toNat, ⟨(s.b.drop 2).drop (num (s.b.take 2)).toNat, 0⟩) else ([], ⟨s.b.drop 2, 8⟩)) else ([], ⟨s.b, 8⟩)) else ([], s)

theorem clos37 (l : List UInt8) (e : Int) (x : Option AV) (hx : x = none ∨ x = some CUT) {H : List AO} (h0 : H[0]? = some (RB l e)) (h1 : H[1]? = some (.box [.ref 0 0 0])) :
    DCall Try.prog 70 [.ref 1 0 0] x H fun H' => ∃ G, H' = H.set 0 (RB l (if x = none then e else if e = 0 then 8 else e)) ++ G := by
  have := dcall_one (k0 := 0) is69.mix Try.func70 (fn := Try.f70) rfl rfl (by kernel_rfl) rfl rfl rfl rfl (by kernel_rfl) rfl rfl rfl rfl rfl rfl rfl (by kernel_rfl) rfl h1 (caught_at l e x hx h0)
  exact this.mono fun _ ⟨_, _, h⟩ => h

theorem text_read (s : RS) (hl : s.b.length < 2 ^ 62) : ACall Try.prog 47 [.ref 0 0 0] [s.obj] fun y H' => y = .str (textR s).1 ∧ H' = [(textR s).2.obj] := by
  have key : ACall Try.prog 47 [.ref 0 0 0] [s.obj] fun y H' => y = .str (textR s).1 ∧ ∃ G, H' = (textR s).2.obj :: G := by
    refine acall_defer (g := 70) (cc0 := cc47001) (ccr := cc47002) (N := 15) (t := 3) (capo := [.tmp 1]) is69.mix Try.func47 (fn := Try.f47) (by kernel_rfl) rfl rfl (by kernel_rfl) (by kernel_rfl) (by kernel_rfl) (by kernel_rfl) (by omega) rfl rfl (by kernel_rfl) rfl rfl rfl
      (fun r _ y => y = r.get 2) (by simp) (res_tmp rfl) rfl ?_
    obtain ⟨l, e⟩ := s
    simp only at hl
    unfold cc47001 RS.obj
    simp -implicitDefEqProofs (maxSteps := 500000) (disch := first | decide | omega) only [↓preS, ↓reduceIte, allS, Nat.reduceBEq, Nat.reduceAdd, Nat.reduceEqDiff, reduceIte, Int.reduceToNat, Int.reduceLE, Int.reduceLT, Nat.reduceLeDiff, Nat.reduceMul, Nat.reducePow, Nat.reduceLT, Int.reduceBEq, Int.reduceBNe, Int.reduceAdd, Int.reduceSub, Int.reduceMul, Int.reduceGT, Int.reduceGE, decS, Int.reduceNe, Int.reduceEq]
    refine ⟨by simp, rfl, by kernel_rfl, ?_⟩
    show aw Try.prog cc47002 (deferQ Try.prog 70 [.ref 1 0 0] _ _) _
    unfold cc47002 
    simp -implicitDefEqProofs (maxSteps := 500000) (disch := first | decide | omega) only [↓preS, ↓reduceIte, allS, Nat.reduceBEq, Nat.reduceAdd, Nat.reduceEqDiff, reduceIte, Int.reduceToNat, Int.reduceLE, Int.reduceLT, Nat.reduceLeDiff, Nat.reduceMul, Nat.reducePow, Nat.reduceLT, Int.reduceBEq, Int.reduceBNe, Int.reduceAdd, Int.reduceSub, Int.reduceMul, Int.reduceGT, Int.reduceGE, decS, Int.reduceNe, Int.reduceEq, RB, partOf]
    refine cK_split (fun hb => ?_) (fun hb => ?_)
    · simp (disch := omega) only [decide_eq_true_eq, decide_eq_false_iff_not, wrap_i64, beq_iff_eq, bne_iff_ne, beq_eq_false_iff_ne, bne_eq_false_iff_eq, Bool.not_eq_true, Bool.not_eq_false, eq_u32, ne_u32] at hb
      subst hb
      obtain ⟨n, hn, hn2⟩ := num_two (l.take 2) (by simp; omega)
      simp -implicitDefEqProofs (maxSteps := 500000) (disch := first | decide | omega) only [↓preS, ↓reduceIte, allS, Nat.reduceBEq, Nat.reduceAdd, Nat.reduceEqDiff, reduceIte, Int.reduceToNat, Int.reduceLE, Int.reduceLT, Nat.reduceLeDiff, Nat.reduceMul, Nat.reducePow, Nat.reduceLT, Int.reduceBEq, Int.reduceBNe, Int.reduceAdd, Int.reduceSub, Int.reduceMul, Int.reduceGT, Int.reduceGE, decS, Int.reduceNe, Int.reduceEq, partOf]
      refine ⟨?_, ?_, ?_⟩ <;>
      · refine acK_obj (number_ok l 0 2 hl) rfl rfl rfl rfl rfl ?_ ?_
        · rintro y Hr ⟨h1, rfl, rfl⟩
          rw [hn]
          simp -implicitDefEqProofs (maxSteps := 500000) (disch := first | decide | omega) only [↓preS, ↓reduceIte, allS, Nat.reduceBEq, Nat.reduceAdd, Nat.reduceEqDiff, reduceIte, Int.reduceToNat, Int.reduceLE, Int.reduceLT, Nat.reduceLeDiff, Nat.reduceMul, Nat.reducePow, Nat.reduceLT, Int.reduceBEq, Int.reduceBNe, Int.reduceAdd, Int.reduceSub, Int.reduceMul, Int.reduceGT, Int.reduceGE, decS, Int.reduceNe, Int.reduceEq, AV.ren, AV.renL, spl_one, RB, AO.ren, partOf]
          refine acK_obj (take_ok (l.drop 2) 0 n (by simp; omega)) rfl rfl rfl rfl rfl ?_ ?_
          · rintro y Hr ⟨h2, rfl, rfl⟩
            simp -implicitDefEqProofs (maxSteps := 500000) (disch := first | decide | omega) only [↓preS, ↓reduceIte, allS, Nat.reduceBEq, Nat.reduceAdd, Nat.reduceEqDiff, reduceIte, Int.reduceToNat, Int.reduceLE, Int.reduceLT, Nat.reduceLeDiff, Nat.reduceMul, Nat.reducePow, Nat.reduceLT, Int.reduceBEq, Int.reduceBNe, Int.reduceAdd, Int.reduceSub, Int.reduceMul, Int.reduceGT, Int.reduceGE, decS, Int.reduceNe, Int.reduceEq, AV.ren, AV.renL, spl_one, RB, AO.ren, SB]
            refine (clos37 ((l.drop 2).drop n) 0 none (.inl rfl) rfl rfl).mono fun H' ⟨G, h⟩ => ⟨_, rfl, ?_, [AO.box [AV.ref 0 0 0]] ++ G, ?_⟩
            · simp only [textR, h1, hn, Int.toNat_natCast, h2, if_true, Regs.get]
            · rw [h]
              simp only [textR, h1, hn, Int.toNat_natCast, h2, if_true, RB, List.set_cons_zero, List.cons_append, List.nil_append]
          · rintro y Hr ⟨h2, rfl, rfl⟩
            have h3 : ¬ n ≤ (l.drop 2).length := by omega
            simp -implicitDefEqProofs (maxSteps := 500000) (disch := first | decide | omega) only [↓preS, ↓reduceIte, allS, Nat.reduceBEq, Nat.reduceAdd, Nat.reduceEqDiff, reduceIte, Int.reduceToNat, Int.reduceLE, Int.reduceLT, Nat.reduceLeDiff, Nat.reduceMul, Nat.reducePow, Nat.reduceLT, Int.reduceBEq, Int.reduceBNe, Int.reduceAdd, Int.reduceSub, Int.reduceMul, Int.reduceGT, Int.reduceGE, decS, Int.reduceNe, Int.reduceEq, AV.ren, AV.renL, spl_one, RB, AO.ren, CUT]
            refine (clos37 (l.drop 2) 0 (some CUT) (.inr rfl) rfl rfl).mono fun H' ⟨G, h⟩ => ⟨_, rfl, ?_, [AO.box [AV.ref 0 0 0]] ++ G, ?_⟩
            · simp only [textR, h1, hn, Int.toNat_natCast, h3, if_true, if_false, Regs.get]
              rfl
            · rw [h]
              simp only [textR, h1, hn, Int.toNat_natCast, h3, if_true, if_false, RB, List.set_cons_zero, List.cons_append, List.nil_append]
              rfl
        · rintro y Hr ⟨h1, rfl, rfl⟩
          have h2 : ¬ 2 ≤ l.length := by omega
          simp -implicitDefEqProofs (maxSteps := 500000) (disch := first | decide | omega) only [↓preS, ↓reduceIte, allS, Nat.reduceBEq, Nat.reduceAdd, Nat.reduceEqDiff, reduceIte, Int.reduceToNat, Int.reduceLE, Int.reduceLT, Nat.reduceLeDiff, Nat.reduceMul, Nat.reducePow, Nat.reduceLT, Int.reduceBEq, Int.reduceBNe, Int.reduceAdd, Int.reduceSub, Int.reduceMul, Int.reduceGT, Int.reduceGE, decS, Int.reduceNe, Int.reduceEq, AV.ren, AV.renL, spl_one, RB, AO.ren, CUT]
          refine (clos37 l 0 (some CUT) (.inr rfl) rfl rfl).mono fun H' ⟨G, h⟩ => ⟨_, rfl, ?_, [AO.box [AV.ref 0 0 0]] ++ G, ?_⟩
          · simp only [textR, h2, if_true, if_false, Regs.get]
            rfl
          · rw [h]
            simp only [textR, h2, if_true, if_false, RB, List.set_cons_zero, List.cons_append, List.nil_append]
            rfl
    · simp (disch := omega) only [decide_eq_true_eq, decide_eq_false_iff_not, wrap_i64, beq_iff_eq, bne_iff_ne, beq_eq_false_iff_ne, bne_eq_false_iff_eq, Bool.not_eq_true, Bool.not_eq_false, eq_u32, ne_u32] at hb
      simp -implicitDefEqProofs (maxSteps := 500000) (disch := first | decide | omega) only [↓preS, ↓reduceIte, allS, Nat.reduceBEq, Nat.reduceAdd, Nat.reduceEqDiff, reduceIte, Int.reduceToNat, Int.reduceLE, Int.reduceLT, Nat.reduceLeDiff, Nat.reduceMul, Nat.reducePow, Nat.reduceLT, Int.reduceBEq, Int.reduceBNe, Int.reduceAdd, Int.reduceSub, Int.reduceMul, Int.reduceGT, Int.reduceGE, decS, Int.reduceNe, Int.reduceEq, partOf]
      refine (clos37 l e none (.inl rfl) rfl rfl).mono fun H' ⟨G, h⟩ => ⟨_, rfl, ?_, [AO.box [AV.ref 0 0 0]] ++ G, ?_⟩
      · simp [textR, hb, Regs.get]
      · rw [h]
        simp [textR, hb, RB]
  refine key.drop fun y Hr ⟨h1, G, h2⟩ => ⟨[(textR s).2.obj], G, h2, by simp, by subst h1; rfl, ?_, h1, rfl⟩
  intro o ho
  obtain rfl : o = (textR s).2.obj := by simpa using ho
  rfl
end Go.Proofs.Ytgpipheibnlkhaa
