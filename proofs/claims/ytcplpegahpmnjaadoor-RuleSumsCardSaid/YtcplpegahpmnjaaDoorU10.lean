/- What functions of the program compute. No condition. -/
import Derived.Test.YtcplpegahpmnjaaDoorU5
set_option linter.unusedSimpArgs false
set_option linter.unusedVariables false
namespace Go.Proofs.YtcplpegahpmnjaaDoor
open Go Go.Ab
abbrev Cnt := List (List UInt8 × Int)
def esA (es : Cnt) : List (AV × AV) := es.map fun q => (.str q.1, .int .i64 q.2)
theorem roE_es {ρ : Nat → Option Nat} : ∀ es : Cnt, roE ρ (esA es) = esA es
  | [] => rfl
  | x :: es => by
    have := roE_es (ρ := ρ) es
    unfold esA at this ⊢
    rw [List.map_cons, roE, this]
    rfl
theorem boE_es {ρ : Nat → Option Nat} {n : Nat} : ∀ es : Cnt, boE ρ n (esA es) = true
  | [] => rfl
  | x :: es => by
    have := boE_es (ρ := ρ) (n := n) es
    unfold esA at this ⊢
    rw [List.map_cons, boE, this]
    rfl
attribute [simp] roE_es boE_es
def posE (p : List UInt8) (es : Cnt) : Option Nat := es.findIdx? fun q => q.1 == p
theorem findM_es (p : List UInt8) : ∀ es : Cnt, findM (.str p) (esA es) = some ((posE p es).map fun i => (i, .int .i64 (es.getD i ([], 0)).2))
  | [] => rfl
  | x :: es => by
    have ih := findM_es p es
    unfold esA at ih ⊢
    unfold posE at ih ⊢
    rw [List.map_cons]
    unfold findM
    rw [List.findIdx?_cons]
    by_cases h : p = x.1
    · subst h
      simp [eqS]
    · have h1 : eqS (.str p) (.str x.1) = some false := by simp [eqS, h]
      have h2 : (x.1 == p) = false := by rw [beq_eq_false_iff_ne]; exact fun e => h e.symm
      rw [h1, h2, ih]
      simp only [Bool.false_eq_true, if_false]
      cases List.findIdx? (fun q => q.1 == p) es <;> simp
def incE (p : List UInt8) (es : Cnt) : Cnt := match posE p es with
  | some i => es.set i (p, (es.getD i ([], 0)).2 + 1)
  | none => es ++ [(p, 1)]
def cntE (p : List UInt8) (es : Cnt) : Int := match posE p es with
  | some i => (es.getD i ([], 0)).2
  | none => 0
theorem upd_es (p : List UInt8) (es : Cnt) (id : Nat) (H : List AO) (K : AV → List AO → Prop) : updF id (.str p) (.int .i64 (cntE p es + 1)) (esA es) (findM (.str p) (esA es)) H K = K (.tup []) (H.set id (.mapo (esA (incE p es)))) := by
  rw [findM_es]
  unfold incE cntE
  cases h : posE p es with
  | none => simp [updF, bindH, esA]
  | some i =>
    have hi : i < es.length := by
      unfold posE at h
      rw [List.findIdx?_eq_some_iff_getElem] at h
      exact h.1
    have hp : (es.getD i ([], 0)).1 = p := by
      unfold posE at h
      rw [List.findIdx?_eq_some_iff_getElem] at h
      have := h.2.1
      simpa [List.getD_eq_getElem?_getD, hi] using this
    simp only [Option.map_some, updF, bindH]
    have e : (esA es).set i (((esA es).getD i (.top, .top)).1, .int .i64 ((es.getD i ([], 0)).2 + 1)) = esA (es.set i (p, (es.getD i ([], 0)).2 + 1)) := by
      unfold esA
      rw [List.map_set]
      congr 2
      rw [← hp]
      simp [List.getD_eq_getElem?_getD, hi]
    rw [e]
theorem lkp_es (p : List UInt8) (es : Cnt) (K : AV → Prop) : lkpF false (.int .i64 0) (findM (.str p) (esA es)) K = K (.int .i64 (cntE p es)) := by
  rw [findM_es]
  unfold cntE
  cases posE p es <;> rfl
def SmallE (n : Nat) (es : Cnt) : Prop := es.length ≤ n ∧ ∀ x ∈ es, 1 ≤ x.2 ∧ x.2 ≤ n
theorem small_nil : SmallE 0 [] := ⟨Nat.le_refl _, by simp⟩
theorem small_cnt {n : Nat} {es : Cnt} (h : SmallE n es) (p : List UInt8) : 0 ≤ cntE p es ∧ cntE p es ≤ n := by
  unfold cntE
  cases hp : posE p es with
  | none => simp
  | some i =>
    have hi : i < es.length := by
      unfold posE at hp
      rw [List.findIdx?_eq_some_iff_getElem] at hp
      exact hp.1
    have := h.2 _ (List.getElem_mem hi)
    simp [List.getD_eq_getElem?_getD, hi]
    omega
theorem small_inc {n : Nat} {es : Cnt} (h : SmallE n es) (p : List UInt8) : SmallE (n + 1) (incE p es) := by
  have hc := small_cnt h p
  unfold cntE at hc
  unfold incE
  cases hp : posE p es with
  | none => 
    refine ⟨by simp; exact h.1, fun x hx => ?_⟩
    rcases List.mem_append.1 hx with hx | hx
    · have := h.2 x hx; omega
    · simp at hx; subst hx; simp; omega
  | some i =>
    rw [hp] at hc
    simp only at hc
    refine ⟨by simp; have := h.1; omega, fun x hx => ?_⟩
    rcases List.mem_or_eq_of_mem_set hx with hx | rfl
    · have := h.2 x hx; omega
    · simp only; omega
structure LabOk (l : List (List UInt8)) : Prop where
  first : l.head? = some []
  names : ∀ x ∈ l.tail, nameP x = true
  len : l.length ≤ 3
  nodup : l.Nodup
  size : ∀ x ∈ l, x.length ≤ 2 ^ 40
theorem inc_new {l : List (List UInt8)} {x : List UInt8} (h : x ∉ l) : incE x (l.map fun y => (y, 1)) = (l ++ [x]).map fun y => (y, 1) := by
  have : posE x (l.map fun y => (y, (1 : Int))) = none := by
    unfold posE
    rw [List.findIdx?_eq_none_iff]
    intro q hq
    obtain ⟨y, hy, rfl⟩ := List.mem_map.1 hq
    rw [beq_eq_false_iff_ne]
    rintro rfl
    exact h hy
  unfold incE
  rw [this]
  simp
set_option maxHeartbeats 2000000 in
theorem labels_ok (t : Bool) (l : List (List UInt8)) (h : LabOk l) : PCall Tryd.prog 25 [.sl t 1 (l.map AV.str)] (.int .i64 0) := by
  unfold PCall
  refine acall_of is25 (by simp) ?_
  unfold cc25
  simp -implicitDefEqProofs (maxSteps := 500000) (disch := first | decide | omega) only [↓preS, allS, decS, simprocAttr]
  unfold cc25L0
  simp -implicitDefEqProofs (maxSteps := 500000) (disch := first | decide | omega) only [↓preS, allS, decS, simprocAttr]
  refine aw_loopS (σ := Nat) (fun i => ⟨[(0, .sl t 1 (l.map AV.str)), (3, .mp 0), (7, .sl t 1 (l.map AV.str)), (8, .int .i64 (l.length : Int)), (9, .int .i64 (i : Int))], [.mapo (esA ((l.take i).map fun y => (y, 1)))]⟩)
    (fun i => i ≤ l.length) (fun i => l.length - i) 0 ?_ (by omega) ?_
  · exact .inl rfl
  intro i hii
  have hl3 := h.len
  unfold cc25l0
  by_cases hil : i < l.length
  · have hg : l.getD i default = l[i] := by simp [hil]
    have hx : l[i] ∉ l.take i := by
      have := h.nodup
      rw [← List.take_append_drop i l] at this
      have h2 := (List.nodup_append.1 this).2.2
      intro hm
      exact h2 _ hm l[i] (by rw [List.drop_eq_getElem_cons hil]; exact List.mem_cons_self) rfl
    have hinc := inc_new hx
    rw [← List.take_succ_eq_append_getElem hil] at hinc
    have hsm : SmallE i ((l.take i).map fun y => (y, (1 : Int))) := by
      refine ⟨by simp; omega, fun x hx => ?_⟩
      obtain ⟨y, hy, rfl⟩ := List.mem_map.1 hx
      have : 0 < (l.take i).length := List.length_pos_iff.2 (by intro e; rw [e] at hy; simp at hy)
      simp at this
      simp only
      omega
    have hc := small_cnt hsm l[i]
    generalize (l.take i).map (fun y => (y, (1 : Int))) = es at hinc hsm hc
    rcases Nat.eq_zero_or_pos i with h0 | h0
    · subst h0
      have hf : l[0] = [] := by
        have := h.first
        rw [List.head?_eq_getElem?, List.getElem?_eq_getElem hil] at this
        exact Option.some.inj this
      have hfb : (l[0] == ([] : List UInt8)) = true := by rw [hf]; rfl
      simp -implicitDefEqProofs (maxSteps := 500000) (disch := first | decide | omega) only [↓preS, allS, decS, simprocAttr, hg, hfb, Bool.not_true, keyOk.eq_1, lkp_es, upd_es, hinc]
      exact ⟨by omega, 1, .inl rfl, by omega, by omega⟩
    · have hn : nameP l[i] = true := h.names _ (by
        have e : l[i] = l.tail[i - 1]'(by simp; omega) := by
          rw [List.getElem_tail]
          congr 1
          omega
        rw [e]
        exact List.getElem_mem _)
      have cn := name_ok l[i] (h.size _ (List.getElem_mem hil))
      rw [hn] at cn
      simp -implicitDefEqProofs (maxSteps := 500000) (disch := first | decide | omega) only [↓preS, allS, decS, simprocAttr, hg]
      refine ⟨by omega, by omega, ?_⟩
      refine acK_of (FCall.of (lent := false) (cn) (.refl rfl) rfl (by simp)) ?_
      simp -implicitDefEqProofs (maxSteps := 500000) (disch := first | decide | omega) only [↓preS, allS, decS, simprocAttr, Bool.not_true, keyOk.eq_1, lkp_es, upd_es, hinc]
      exact ⟨i + 1, .inl rfl, by omega, by omega⟩
  · have : i = l.length := by omega
    subst this
    rw [List.take_length]
    have e : (esA (l.map fun y => (y, 1))).length = l.length := by simp [esA]
    simp -implicitDefEqProofs (maxSteps := 500000) (disch := first | decide | omega) only [↓preS, allS, decS, simprocAttr, e]
def queuesP (nl : Nat) : Bool → List UInt8 → Cnt → List Queue → Int
  | _, _, _, [] => 0
  | fst, last, es, q :: r =>
    if isPathP q.path = false then 12
    else if (!fst && (Op.bytesLess q.path last || q.path == last)) = true then 7
    else if ((aboveP q.path).2 && decide (cntE (aboveP q.path).1 es = 0)) = true then 12
    else if (decide (q.user < 1) || decide (q.user > 1000000) || decide (q.caps.length ≠ nl) || !capsP q.caps) = true then 1
    else queuesP nl false q.path (incE q.path es) r
set_option maxHeartbeats 8000000 in
theorem queues_ok (tl tq : Bool) (ls : List (List UInt8)) (qs : List Queue) (hls : ls.length ≤ 2 ^ 40) (hl : qs.length ≤ 2 ^ 40) (hq : ∀ q ∈ qs, QOk q) :
    PCall Tryd.prog 26 [CONF tl tq ls qs] (.int .i64 (queuesP ls.length true [] [] qs)) := by
  unfold PCall
  refine acall_of is26 (by simp) ?_
  unfold cc26 CONF
  simp -implicitDefEqProofs (maxSteps := 500000) (disch := first | decide | omega) only [↓preS, allS, decS, simprocAttr]
  unfold cc26L0
  simp -implicitDefEqProofs (maxSteps := 500000) (disch := first | decide | omega) only [↓preS, allS, decS, simprocAttr]
  refine aw_loopS (σ := Nat × List UInt8 × Cnt) (fun s => ⟨[(1, .ref 0 0 0), (3, .mp 1), (4, .str s.2.1), (11, .sl tq 3 (qs.map QUE)), (12, .int .i64 (qs.length : Int)), (13, .int .i64 (s.1 : Int))], [.box [.sl tl 1 (ls.map AV.str), .sl tq 3 (qs.map QUE)], .mapo (esA s.2.2)]⟩)
    (fun s => s.1 ≤ qs.length ∧ queuesP ls.length true [] [] qs = queuesP ls.length (s.1 == 0) s.2.1 s.2.2 (qs.drop s.1) ∧ SmallE s.1 s.2.2) (fun s => qs.length - s.1) (0, [], []) ?_ ⟨by simp, rfl, small_nil⟩ ?_
  · exact .inl rfl
  rintro ⟨i, last, es⟩ ⟨hii, hP, hsm⟩
  simp only at hii hP hsm
  unfold cc26l0
  by_cases hil : i < qs.length
  · have hg : qs.getD i default = qs[i] := by simp [hil]
    have hx := hq _ (List.getElem_mem hil)
    rw [List.drop_eq_getElem_cons hil, queuesP] at hP
    generalize qs[i] = q at hg hx hP
    have hpl := hx.path
    have ca := above_ok q.path (by omega)
    have cp := path_ok q.path hpl
    have cc := fun t => caps_ok t q.caps (by have := hx.len; omega)
    have hc1 := small_cnt hsm q.path
    have hc2 := small_cnt hsm (aboveP q.path).1
    have hsi := small_inc hsm q.path
    generalize aboveP q.path = ab at ca hP hc2
    obtain ⟨up, has⟩ := ab
    simp only at ca hP hc2
    simp -implicitDefEqProofs (maxSteps := 500000) (disch := first | decide | omega) only [↓preS, allS, decS, simprocAttr, hg, queS, List.append_nil]
    refine ⟨by omega, by omega, ?_⟩
    refine acK_of (FCall.of (lent := false) (ca) (.refl rfl) rfl (by simp)) ?_
    simp -implicitDefEqProofs (maxSteps := 500000) (disch := first | decide | omega) only [↓preS, allS, decS, simprocAttr, queS]
    refine acK_of (FCall.of (lent := false) (cp) (.refl rfl) rfl (by simp)) ?_
    cases h1 : isPathP q.path with
    | false =>
      rw [h1] at hP
      simp only [if_true] at hP
      simp -implicitDefEqProofs (maxSteps := 500000) (disch := first | decide | omega) only [↓preS, allS, decS, simprocAttr]
      rw [hP]
    | true =>
      rw [h1] at hP
      simp only [Bool.true_eq_false, if_false] at hP
      have fin : (queuesP ls.length true [] [] qs = 0 ∨ True) := .inr trivial
      have hcase : ((!(i == 0) && (Op.bytesLess q.path last || q.path == last)) = true ∧ 0 < i ∧ (Op.bytesLess q.path last || q.path == last) = true) ∨ ((!(i == 0) && (Op.bytesLess q.path last || q.path == last)) = false ∧ (i = 0 ∨ (0 < i ∧ (Op.bytesLess q.path last || q.path == last) = false))) := by
        rcases Nat.eq_zero_or_pos i with h | h
        · subst h; exact .inr ⟨rfl, .inl rfl⟩
        · have e : (i == 0) = false := by simp; omega
          rw [e]
          cases (Op.bytesLess q.path last || q.path == last)
          · exact .inr ⟨rfl, .inr ⟨h, rfl⟩⟩
          · exact .inl ⟨rfl, h, rfl⟩
      rcases hcase with ⟨h2, h3, h4⟩ | ⟨h2, h3⟩
      · rw [h2] at hP
        simp only [if_true] at hP
        simp -implicitDefEqProofs (maxSteps := 500000) (disch := first | decide | omega) only [↓preS, allS, decS, simprocAttr, Bool.not_true]
        simp -implicitDefEqProofs (maxSteps := 500000) (disch := first | decide | omega) only [↓preS, allS, decS, simprocAttr, queS, h4]
        rw [hP]
      · rw [h2] at hP
        simp only [Bool.false_eq_true, if_false] at hP
        rcases h3 with rfl | ⟨h3, h4⟩
        · simp -implicitDefEqProofs (maxSteps := 500000) (disch := first | decide | omega) only [↓preS, allS, decS, simprocAttr, Bool.not_true]
          cases has with
          | false =>
            simp only [Bool.false_and, Bool.false_eq_true, if_false] at hP
            simp -implicitDefEqProofs (maxSteps := 500000) (disch := first | decide | omega) only [↓preS, allS, decS, simprocAttr]
            by_cases h6 : q.user < 1
            · rw [if_pos (by simp [h6])] at hP
              simp -implicitDefEqProofs (maxSteps := 500000) (disch := first | decide | omega) only [↓preS, allS, decS, simprocAttr, queS]
              rw [hP]
            · by_cases h7 : q.user > 1000000
              · rw [if_pos (by simp [h7])] at hP
                simp -implicitDefEqProofs (maxSteps := 500000) (disch := first | decide | omega) only [↓preS, allS, decS, simprocAttr, queS]
                rw [hP]
              · by_cases h8 : q.caps.length = ls.length
                · have h8a : ((q.caps.map CAP).length : Int) = ((ls.map AV.str).length : Int) := by simp; omega
                  cases h9 : capsP q.caps with
                  | false =>
                    have cc2 := cc false
                    rw [h9] at cc2
                    rw [if_pos (by simp [h9])] at hP
                    simp -implicitDefEqProofs (maxSteps := 500000) (disch := first | decide | omega) only [↓preS, allS, decS, simprocAttr, queS]
                    refine acK_of (FCall.of (lent := false) (cc2) (.refl rfl) rfl (by simp)) ?_
                    simp -implicitDefEqProofs (maxSteps := 500000) (disch := first | decide | omega) only [↓preS, allS, decS, simprocAttr]
                    rw [hP]
                  | true =>
                    have cc2 := cc false
                    rw [h9] at cc2
                    rw [if_neg (by simp [h6, h8, h9]; omega)] at hP
                    simp -implicitDefEqProofs (maxSteps := 500000) (disch := first | decide | omega) only [↓preS, allS, decS, simprocAttr, queS]
                    refine acK_of (FCall.of (lent := false) (cc2) (.refl rfl) rfl (by simp)) ?_
                    simp -implicitDefEqProofs (maxSteps := 500000) (disch := first | decide | omega) only [↓preS, allS, decS, simprocAttr, Bool.not_true, queS, keyOk.eq_1, lkp_es, upd_es]
                    exact ⟨(1, q.path, incE q.path es), (by (refine Sub.ofL [some 0, some 1] rfl (by simp) (by decide) (by simp [partL, AO.ro, AV.ro, AV.roL, names, AO.empty, SB, U8, SI, I64, STR] <;> (try and_intros) <;> rfl) (by simp [AO.bo, AV.bo, AV.boL, names] <;> (try and_intros) <;> rfl) ?_ <;> (try simp only [List.map_cons, List.map_nil, regsL, AV.ro, AV.roL, AV.bo, AV.boL, names, get_here, get_there, Nat.reduceBEq, List.getD_cons_zero, List.getD_cons_succ, List.getD_nil, and_true, true_and, Nat.reduceLT, List.length_cons, List.length_nil, Nat.reduceAdd, decide_true, Option.isSome_some, Bool.true_or, Bool.and_self, Option.isSome_none, Bool.false_or, beq_self_eq_true, wk0_self, wk0_nils]) <;> (try and_intros) <;> (first | done | rfl | exact .inl rfl | exact .inr ⟨rfl, _, _, rfl⟩ | (simp; done) | (simp; omega) | (refine .inl ?_; simp; done) | (refine .inl ?_; simp; omega)))), ⟨by simp only; omega, hP, hsi⟩, by simp only; omega⟩
                · have h8a : ¬ ((q.caps.map CAP).length : Int) = ((ls.map AV.str).length : Int) := by simp; omega
                  rw [if_pos (by simp [h8])] at hP
                  simp -implicitDefEqProofs (maxSteps := 500000) (disch := first | decide | omega) only [↓preS, allS, decS, simprocAttr, queS]
                  rw [hP]
          | true =>
            simp only [Bool.true_and] at hP
            by_cases h5 : cntE up es = 0
            · rw [if_pos (by simp [h5])] at hP
              simp -implicitDefEqProofs (maxSteps := 500000) (disch := first | decide | omega) only [↓preS, allS, decS, simprocAttr, keyOk.eq_1, lkp_es, h5]
              rw [hP]
            · exfalso; omega
        · simp -implicitDefEqProofs (maxSteps := 500000) (disch := first | decide | omega) only [↓preS, allS, decS, simprocAttr, Bool.not_true, queS, h4]
          cases has with
          | false =>
            simp only [Bool.false_and, Bool.false_eq_true, if_false] at hP
            simp -implicitDefEqProofs (maxSteps := 500000) (disch := first | decide | omega) only [↓preS, allS, decS, simprocAttr]
            by_cases h6 : q.user < 1
            · rw [if_pos (by simp [h6])] at hP
              simp -implicitDefEqProofs (maxSteps := 500000) (disch := first | decide | omega) only [↓preS, allS, decS, simprocAttr, queS]
              rw [hP]
            · by_cases h7 : q.user > 1000000
              · rw [if_pos (by simp [h7])] at hP
                simp -implicitDefEqProofs (maxSteps := 500000) (disch := first | decide | omega) only [↓preS, allS, decS, simprocAttr, queS]
                rw [hP]
              · by_cases h8 : q.caps.length = ls.length
                · have h8a : ((q.caps.map CAP).length : Int) = ((ls.map AV.str).length : Int) := by simp; omega
                  cases h9 : capsP q.caps with
                  | false =>
                    have cc2 := cc false
                    rw [h9] at cc2
                    rw [if_pos (by simp [h9])] at hP
                    simp -implicitDefEqProofs (maxSteps := 500000) (disch := first | decide | omega) only [↓preS, allS, decS, simprocAttr, queS]
                    refine acK_of (FCall.of (lent := false) (cc2) (.refl rfl) rfl (by simp)) ?_
                    simp -implicitDefEqProofs (maxSteps := 500000) (disch := first | decide | omega) only [↓preS, allS, decS, simprocAttr]
                    rw [hP]
                  | true =>
                    have cc2 := cc false
                    rw [h9] at cc2
                    rw [if_neg (by simp [h6, h8, h9]; omega)] at hP
                    simp -implicitDefEqProofs (maxSteps := 500000) (disch := first | decide | omega) only [↓preS, allS, decS, simprocAttr, queS]
                    refine acK_of (FCall.of (lent := false) (cc2) (.refl rfl) rfl (by simp)) ?_
                    simp -implicitDefEqProofs (maxSteps := 500000) (disch := first | decide | omega) only [↓preS, allS, decS, simprocAttr, Bool.not_true, queS, keyOk.eq_1, lkp_es, upd_es]
                    exact ⟨(i + 1, q.path, incE q.path es), (by (refine Sub.ofL [some 0, some 1] rfl (by simp) (by decide) (by simp [partL, AO.ro, AV.ro, AV.roL, names, AO.empty, SB, U8, SI, I64, STR] <;> (try and_intros) <;> rfl) (by simp [AO.bo, AV.bo, AV.boL, names] <;> (try and_intros) <;> rfl) ?_ <;> (try simp only [List.map_cons, List.map_nil, regsL, AV.ro, AV.roL, AV.bo, AV.boL, names, get_here, get_there, Nat.reduceBEq, List.getD_cons_zero, List.getD_cons_succ, List.getD_nil, and_true, true_and, Nat.reduceLT, List.length_cons, List.length_nil, Nat.reduceAdd, decide_true, Option.isSome_some, Bool.true_or, Bool.and_self, Option.isSome_none, Bool.false_or, beq_self_eq_true, wk0_self, wk0_nils]) <;> (try and_intros) <;> (first | done | rfl | exact .inl rfl | exact .inr ⟨rfl, _, _, rfl⟩ | (simp; done) | (simp; omega) | (refine .inl ?_; simp; done) | (refine .inl ?_; simp; omega)))), ⟨by simp only; omega, by rw [hP]; simp, hsi⟩, by simp only; omega⟩
                · have h8a : ¬ ((q.caps.map CAP).length : Int) = ((ls.map AV.str).length : Int) := by simp; omega
                  rw [if_pos (by simp [h8])] at hP
                  simp -implicitDefEqProofs (maxSteps := 500000) (disch := first | decide | omega) only [↓preS, allS, decS, simprocAttr, queS]
                  rw [hP]
          | true =>
            simp only [Bool.true_and] at hP
            by_cases h5 : cntE up es = 0
            · rw [if_pos (by simp [h5])] at hP
              simp -implicitDefEqProofs (maxSteps := 500000) (disch := first | decide | omega) only [↓preS, allS, decS, simprocAttr, keyOk.eq_1, lkp_es, h5]
              rw [hP]
            · rw [if_neg (by simp [h5])] at hP
              simp -implicitDefEqProofs (maxSteps := 500000) (disch := first | decide | omega) only [↓preS, allS, decS, simprocAttr, keyOk.eq_1, lkp_es]
              by_cases h6 : q.user < 1
              · rw [if_pos (by simp [h6])] at hP
                simp -implicitDefEqProofs (maxSteps := 500000) (disch := first | decide | omega) only [↓preS, allS, decS, simprocAttr, queS]
                rw [hP]
              · by_cases h7 : q.user > 1000000
                · rw [if_pos (by simp [h7])] at hP
                  simp -implicitDefEqProofs (maxSteps := 500000) (disch := first | decide | omega) only [↓preS, allS, decS, simprocAttr, queS]
                  rw [hP]
                · by_cases h8 : q.caps.length = ls.length
                  · have h8a : ((q.caps.map CAP).length : Int) = ((ls.map AV.str).length : Int) := by simp; omega
                    cases h9 : capsP q.caps with
                    | false =>
                      have cc2 := cc false
                      rw [h9] at cc2
                      rw [if_pos (by simp [h9])] at hP
                      simp -implicitDefEqProofs (maxSteps := 500000) (disch := first | decide | omega) only [↓preS, allS, decS, simprocAttr, queS]
                      refine acK_of (FCall.of (lent := false) (cc2) (.refl rfl) rfl (by simp)) ?_
                      simp -implicitDefEqProofs (maxSteps := 500000) (disch := first | decide | omega) only [↓preS, allS, decS, simprocAttr]
                      rw [hP]
                    | true =>
                      have cc2 := cc false
                      rw [h9] at cc2
                      rw [if_neg (by simp [h6, h8, h9]; omega)] at hP
                      simp -implicitDefEqProofs (maxSteps := 500000) (disch := first | decide | omega) only [↓preS, allS, decS, simprocAttr, queS]
                      refine acK_of (FCall.of (lent := false) (cc2) (.refl rfl) rfl (by simp)) ?_
                      simp -implicitDefEqProofs (maxSteps := 500000) (disch := first | decide | omega) only [↓preS, allS, decS, simprocAttr, Bool.not_true, queS, keyOk.eq_1, lkp_es, upd_es]
                      exact ⟨(i + 1, q.path, incE q.path es), (by (refine Sub.ofL [some 0, some 1] rfl (by simp) (by decide) (by simp [partL, AO.ro, AV.ro, AV.roL, names, AO.empty, SB, U8, SI, I64, STR] <;> (try and_intros) <;> rfl) (by simp [AO.bo, AV.bo, AV.boL, names] <;> (try and_intros) <;> rfl) ?_ <;> (try simp only [List.map_cons, List.map_nil, regsL, AV.ro, AV.roL, AV.bo, AV.boL, names, get_here, get_there, Nat.reduceBEq, List.getD_cons_zero, List.getD_cons_succ, List.getD_nil, and_true, true_and, Nat.reduceLT, List.length_cons, List.length_nil, Nat.reduceAdd, decide_true, Option.isSome_some, Bool.true_or, Bool.and_self, Option.isSome_none, Bool.false_or, beq_self_eq_true, wk0_self, wk0_nils]) <;> (try and_intros) <;> (first | done | rfl | exact .inl rfl | exact .inr ⟨rfl, _, _, rfl⟩ | (simp; done) | (simp; omega) | (refine .inl ?_; simp; done) | (refine .inl ?_; simp; omega)))), ⟨by simp only; omega, by rw [hP]; simp, hsi⟩, by simp only; omega⟩
                  · have h8a : ¬ ((q.caps.map CAP).length : Int) = ((ls.map AV.str).length : Int) := by simp; omega
                    rw [if_pos (by simp [h8])] at hP
                    simp -implicitDefEqProofs (maxSteps := 500000) (disch := first | decide | omega) only [↓preS, allS, decS, simprocAttr, queS]
                    rw [hP]
  · have : i = qs.length := by omega
    subst this
    rw [List.drop_length, queuesP] at hP
    simp -implicitDefEqProofs (maxSteps := 500000) (disch := first | decide | omega) only [↓preS, allS, decS, simprocAttr]
    rw [hP]
end Go.Proofs.YtcplpegahpmnjaaDoor
