/- What functions of the program compute. No condition. -/
import Derived.Test.YtgpipheibnlkhaaWI
set_option linter.unusedSimpArgs false
set_option linter.unusedVariables false
namespace Go.Proofs.Ytgpipheibnlkhaa
open Go Go.Ab

def WB (b : List UInt8) : AO := .box [.sl false 1 (b.map U8)]

theorem ACall.nilb {f : FuncId} {args : List AV} {Post : AV → List AO → Prop} (h : ACall Try.prog f args [WB []] Post) : ACall Try.prog f args [.box [.nils]] Post :=
  ⟨h.1, fun E vs hm hl hv => h.2 E vs ⟨fun id o ho => by
    cases id with
    | zero =>
      simp only [List.getElem?_cons_zero, Option.some.injEq] at ho
      subst ho
      obtain ⟨L, u, t, fz, h1, h2, h3, h4, h5, h6, h7, h8, h9⟩ := hm.obj 0 _ rfl
      refine ⟨L, u, t, fz, h1, h2, h3, h4, h5, h6, h7, fun a ha => ?_, fun k y hk => ?_⟩
      · simp only [List.map_nil, List.mem_singleton] at ha
        subst ha
        rfl
      · cases k with
        | zero =>
          simp only [List.map_nil, List.getElem?_cons_zero, Option.some.injEq] at hk
          subst hk
          have := h9 0 .nils rfl
          generalize u.getD 0 undef = q at this ⊢
          cases this
          exact .sl0
        | succ k => simp at hk
    | succ id => simp at ho, fun i j oi oj Li Lj hij hi hj => by
      have h1 := (List.getElem?_eq_some_iff.1 hi).1
      have h2 := (List.getElem?_eq_some_iff.1 hj).1
      simp only [List.length_singleton] at h1 h2
      omega, hm.disj, hm.bound, hm.sbound, hm.sub⟩ hl hv⟩

def ints (l : List Int) : List UInt8 := l.flatMap (be 8)
theorem ints_len (l : List Int) : (ints l).length = 8 * l.length := flat8_len l

theorem fmt {α β : Type} [Inhabited α] (l : List α) (f : α → List β) (k : Nat) (hk : k < l.length) : (l.take (k + 1)).flatMap f = (l.take k).flatMap f ++ f (l.getD k default) := by
  rw [List.take_succ_eq_append_getElem hk, List.flatMap_append, List.getD_eq_getElem?_getD, List.getElem?_eq_getElem hk]
  simp

theorem wints_ok (t : Bool) (b : List UInt8) (l : List Int) (hb : b.length + 8 * l.length ≤ 2 ^ 32) : ACall Try.prog 32 [.ref 0 0 0, .sl t 1 (l.map I64)] [WB b] fun y H' => y = .tup [] ∧ H' = [WB (b ++ ints l)] := by
  refine acall_at is32 (by simp) rfl ?_
  unfold cc32
  simp -implicitDefEqProofs (maxSteps := 500000) (disch := first | decide | omega) only [↓preS, ↓reduceIte, allS, Nat.reduceBEq, Nat.reduceAdd, Nat.reduceEqDiff, reduceIte, Int.reduceToNat, Int.reduceLE, Int.reduceLT, Nat.reduceLeDiff, Nat.reduceMul, Nat.reducePow, Nat.reduceLT, Int.reduceBEq, Int.reduceBNe, Int.reduceAdd, Int.reduceSub, Int.reduceMul, Int.reduceGT, Int.reduceGE, decS, Int.reduceNe, Int.reduceEq]
  unfold cc32L0
  simp -implicitDefEqProofs (maxSteps := 500000) (disch := first | decide | omega) only [↓preS, ↓reduceIte, allS, Nat.reduceBEq, Nat.reduceAdd, Nat.reduceEqDiff, reduceIte, Int.reduceToNat, Int.reduceLE, Int.reduceLT, Nat.reduceLeDiff, Nat.reduceMul, Nat.reducePow, Nat.reduceLT, Int.reduceBEq, Int.reduceBNe, Int.reduceAdd, Int.reduceSub, Int.reduceMul, Int.reduceGT, Int.reduceGE, decS, Int.reduceNe, Int.reduceEq]
  refine aw_loop (σ := Nat) (fun i => ⟨[(0, .ref 0 0 0), (6, .sl t 1 (l.map I64)), (7, .int .i64 l.length), (8, .int .i64 (i : Int))], [WB (b ++ ints (l.take i))]⟩) (fun i => i ≤ l.length) (fun i => l.length - i) 0 (by simp [keepK, Regs.get, ints]) (by simp) ?_
  intro k hk
  unfold cc32l0
  simp -implicitDefEqProofs (maxSteps := 500000) (disch := first | decide | omega) only [↓preS, ↓reduceIte, allS, Nat.reduceBEq, Nat.reduceAdd, Nat.reduceEqDiff, reduceIte, Int.reduceToNat, Int.reduceLE, Int.reduceLT, Nat.reduceLeDiff, Nat.reduceMul, Nat.reducePow, Nat.reduceLT, Int.reduceBEq, Int.reduceBNe, Int.reduceAdd, Int.reduceSub, Int.reduceMul, Int.reduceGT, Int.reduceGE, decS, Int.reduceNe, Int.reduceEq]
  refine cK_split (fun hb2 => ?_) (fun hb2 => ?_)
  · simp (disch := omega) only [decide_eq_true_eq, decide_eq_false_iff_not, wrap_i64, beq_iff_eq, bne_iff_ne, beq_eq_false_iff_ne, bne_eq_false_iff_eq, Bool.not_eq_true, Bool.not_eq_false, eq_u32, ne_u32] at hb2
    simp -implicitDefEqProofs (maxSteps := 500000) (disch := first | decide | omega) only [↓preS, ↓reduceIte, allS, Nat.reduceBEq, Nat.reduceAdd, Nat.reduceEqDiff, reduceIte, Int.reduceToNat, Int.reduceLE, Int.reduceLT, Nat.reduceLeDiff, Nat.reduceMul, Nat.reducePow, Nat.reduceLT, Int.reduceBEq, Int.reduceBNe, Int.reduceAdd, Int.reduceSub, Int.reduceMul, Int.reduceGT, Int.reduceGE, decS, Int.reduceNe, Int.reduceEq, I64, WB, partOf]
    refine ⟨by omega, by omega, ?_⟩
    refine acK_of (FCall.of (lent := false) (int_ok (b ++ ints (l.take k)) (l.getD k default) (by rw [List.length_append, ints_len]; simp; omega)) (.refl rfl) rfl (by simp)) ?_
    simp -implicitDefEqProofs (maxSteps := 500000) (disch := first | decide | omega) only [↓preS, ↓reduceIte, allS, Nat.reduceBEq, Nat.reduceAdd, Nat.reduceEqDiff, reduceIte, Int.reduceToNat, Int.reduceLE, Int.reduceLT, Nat.reduceLeDiff, Nat.reduceMul, Nat.reducePow, Nat.reduceLT, Int.reduceBEq, Int.reduceBNe, Int.reduceAdd, Int.reduceSub, Int.reduceMul, Int.reduceGT, Int.reduceGE, decS, Int.reduceNe, Int.reduceEq, SB]
    refine ⟨k + 1, ?_, by omega, by omega⟩
    unfold ints
    rw [fmt l (be 8) k (by omega), ← List.append_assoc]
    rfl
  · simp (disch := omega) only [decide_eq_true_eq, decide_eq_false_iff_not, wrap_i64, beq_iff_eq, bne_iff_ne, beq_eq_false_iff_ne, bne_eq_false_iff_eq, Bool.not_eq_true, Bool.not_eq_false, eq_u32, ne_u32] at hb2
    simp -implicitDefEqProofs (maxSteps := 500000) (disch := first | decide | omega) only [↓preS, ↓reduceIte, allS, Nat.reduceBEq, Nat.reduceAdd, Nat.reduceEqDiff, reduceIte, Int.reduceToNat, Int.reduceLE, Int.reduceLT, Nat.reduceLeDiff, Nat.reduceMul, Nat.reducePow, Nat.reduceLT, Int.reduceBEq, Int.reduceBNe, Int.reduceAdd, Int.reduceSub, Int.reduceMul, Int.reduceGT, Int.reduceGE, decS, Int.reduceNe, Int.reduceEq]
    have : k = l.length := by omega
    subst this
    rw [List.take_length]

theorem wtext_ok (b s : List UInt8) (hb : b.length ≤ 2 ^ 32) (hs : s.length ≤ 2 ^ 40) : ACall Try.prog 33 [.ref 0 0 0, .str s] [WB b] fun y H' => y = .tup [] ∧ H' = [WB (b ++ textL s)] := by
  refine acall_at is33 (by simp) rfl ?_
  unfold cc33
  simp -implicitDefEqProofs (maxSteps := 500000) (disch := first | decide | omega) only [↓preS, ↓reduceIte, allS, Nat.reduceBEq, Nat.reduceAdd, Nat.reduceEqDiff, reduceIte, Int.reduceToNat, Int.reduceLE, Int.reduceLT, Nat.reduceLeDiff, Nat.reduceMul, Nat.reducePow, Nat.reduceLT, Int.reduceBEq, Int.reduceBNe, Int.reduceAdd, Int.reduceSub, Int.reduceMul, Int.reduceGT, Int.reduceGE, decS, Int.reduceNe, Int.reduceEq, WB, partOf]
  refine acK_of (FCall.of (lent := false) (text_ok b s hb hs) (.refl rfl) rfl (by simp)) ?_
  simp -implicitDefEqProofs (maxSteps := 500000) (disch := first | decide | omega) only [↓preS, ↓reduceIte, allS, Nat.reduceBEq, Nat.reduceAdd, Nat.reduceEqDiff, reduceIte, Int.reduceToNat, Int.reduceLE, Int.reduceLT, Nat.reduceLeDiff, Nat.reduceMul, Nat.reducePow, Nat.reduceLT, Int.reduceBEq, Int.reduceBNe, Int.reduceAdd, Int.reduceSub, Int.reduceMul, Int.reduceGT, Int.reduceGE, decS, Int.reduceNe, Int.reduceEq, SB]

theorem wlist_ok (t : Bool) (b : List UInt8) (l : List Int) (hb : b.length ≤ 2 ^ 32) (hs : l.length ≤ 2 ^ 40) : ACall Try.prog 34 [.ref 0 0 0, .sl t 1 (l.map I64)] [WB b] fun y H' => y = .tup [] ∧ H' = [WB (b ++ intsL l)] := by
  refine acall_at is34 (by simp) rfl ?_
  unfold cc34
  simp -implicitDefEqProofs (maxSteps := 500000) (disch := first | decide | omega) only [↓preS, ↓reduceIte, allS, Nat.reduceBEq, Nat.reduceAdd, Nat.reduceEqDiff, reduceIte, Int.reduceToNat, Int.reduceLE, Int.reduceLT, Nat.reduceLeDiff, Nat.reduceMul, Nat.reducePow, Nat.reduceLT, Int.reduceBEq, Int.reduceBNe, Int.reduceAdd, Int.reduceSub, Int.reduceMul, Int.reduceGT, Int.reduceGE, decS, Int.reduceNe, Int.reduceEq, WB, partOf]
  cases t with
  | false =>
    refine acK_of (FCall.of (lent := false) (ints_ok false b l hb hs) (.refl rfl) rfl (by simp)) ?_
    simp -implicitDefEqProofs (maxSteps := 500000) (disch := first | decide | omega) only [↓preS, ↓reduceIte, allS, Nat.reduceBEq, Nat.reduceAdd, Nat.reduceEqDiff, reduceIte, Int.reduceToNat, Int.reduceLE, Int.reduceLT, Nat.reduceLeDiff, Nat.reduceMul, Nat.reducePow, Nat.reduceLT, Int.reduceBEq, Int.reduceBNe, Int.reduceAdd, Int.reduceSub, Int.reduceMul, Int.reduceGT, Int.reduceGE, decS, Int.reduceNe, Int.reduceEq, SB]
  | true =>
    refine acK_of (FCall.of (lent := true) (ints_ok true b l hb hs) (.refl rfl) rfl (fun _ => rfl)) ?_
    simp -implicitDefEqProofs (maxSteps := 500000) (disch := first | decide | omega) only [↓preS, ↓reduceIte, allS, Nat.reduceBEq, Nat.reduceAdd, Nat.reduceEqDiff, reduceIte, Int.reduceToNat, Int.reduceLE, Int.reduceLT, Nat.reduceLeDiff, Nat.reduceMul, Nat.reducePow, Nat.reduceLT, Int.reduceBEq, Int.reduceBNe, Int.reduceAdd, Int.reduceSub, Int.reduceMul, Int.reduceGT, Int.reduceGE, decS, Int.reduceNe, Int.reduceEq, SB]

def body (x : Inp) : List UInt8 :=
  if x.kind = 1 then textL x.text
  else if x.kind = 2 then ints [x.nId, x.nLab, x.nRack, x.nMem, x.nCor]
  else if x.kind = 3 then ints [x.id, x.beat] ++ intsL x.ids
  else if x.kind = 4 then ints [x.aId] ++ textL x.aQ ++ ints [x.aUser, x.aPrio, x.aMem, x.aCor]
  else if x.kind = 5 then ints [x.id, x.beat, x.asks.length] ++ x.asks.flatMap (fun a => ints [a.prio, a.label, a.mem, a.cores, a.count, a.node, a.rack]) ++ intsL x.ids
  else if x.kind = 6 ∨ x.kind = 7 ∨ x.kind = 10 then ints [x.id]
  else if x.kind = 8 then ints [x.n]
  else if x.kind = 9 then ints [x.pId, x.pLab, x.pFrom, x.pUntil, x.pMem, x.pCor, x.n]
  else []
def enc (x : Inp) : List UInt8 := ints [x.kind] ++ body x
/-- What an input is written as. -/
def inpR (x : Inp) : AV := if wrongI x = 0 then .tup [SB (enc x), .int .i64 0] else .tup [SB [], .int .i64 (wrongI x)]
end Go.Proofs.Ytgpipheibnlkhaa
