/- What functions of the program compute. No condition. -/
import Derived.Test.YtcplpegahpmnjaaDoorU10
set_option linter.unusedSimpArgs false
set_option linter.unusedVariables false
namespace Go.Proofs.YtcplpegahpmnjaaDoor
open Go Go.Ab
def leastOf (qs : List Queue) (i : Nat) (k : List UInt8) : Int := ((qs.getD (idxI (pathP k) qs).toNat default).caps.getD i default).least
def sumK (qs : List Queue) (i : Nat) (ks : List (List UInt8)) : Int := ks.foldl (fun s k => s + leastOf qs i k) 0
def notW (c : Cap) : Bool := decide (c.least ≠ 10000) || decide (c.most ≠ 10000)
def sumsBad (nl : Nat) (qs : List Queue) (q : Queue) : Bool := !(kidsL q.path qs).isEmpty && (List.range nl).any fun i => decide (sumK qs i (kidsL q.path qs) ≠ 10000)
def sumsP (nl : Nat) (qs : List Queue) : Int := if (qs.getD 0 default).caps.any notW then 13 else if qs.any (sumsBad nl qs) then 13 else 0
structure QSum (nl : Nat) (q : Queue) : Prop extends QOk q where
  nl : q.caps.length = nl
  rng : ∀ c ∈ q.caps, 0 ≤ c.least ∧ c.least ≤ 10000
theorem sumK_snoc (qs : List Queue) (i : Nat) (ks : List (List UInt8)) (k : List UInt8) : sumK qs i (ks ++ [k]) = sumK qs i ks + leastOf qs i k := by
  unfold sumK
  rw [List.foldl_append]
  rfl
theorem kids_mem {p k : List UInt8} {qs : List Queue} (h : k ∈ kidsL p qs) : qs.any (pathP k) = true := by
  unfold kidsL at h
  obtain ⟨q, hq, rfl⟩ := List.mem_map.1 h
  exact List.any_eq_true.2 ⟨q, (List.mem_filter.1 hq).1, by simp [pathP]⟩
theorem kids_len (p : List UInt8) (qs : List Queue) : (kidsL p qs).length ≤ qs.length := by
  unfold kidsL
  rw [List.length_map]
  exact List.length_filter_le _ _
theorem least_rng {nl : Nat} {qs : List Queue} (hq : ∀ q ∈ qs, QSum nl q) {k : List UInt8} {i : Nat} (hi : i < nl) (hk : qs.any (pathP k) = true) :
    ∃ j : Nat, ∃ h : j < qs.length, idxI (pathP k) qs = (j : Int) ∧ leastOf qs i k = (qs[j].caps.getD i default).least ∧ 0 ≤ leastOf qs i k ∧ leastOf qs i k ≤ 10000 := by
  rcases idx_cases0 (pathP k) qs with ⟨h1, h2⟩ | ⟨j, hj, h1, h2⟩
  · rw [h2] at hk; cases hk
  · have e : leastOf qs i k = (qs[j].caps.getD i default).least := by
      unfold leastOf
      rw [h1]
      simp [List.getD_eq_getElem?_getD, hj]
    have hx := hq _ (List.getElem_mem hj)
    have hlt : i < qs[j].caps.length := by rw [hx.nl]; exact hi
    have hr := hx.rng _ (List.getElem_mem hlt)
    have e2 : qs[j].caps.getD i default = qs[j].caps[i] := by simp [List.getD_eq_getElem?_getD, hlt]
    exact ⟨j, hj, h1, e, by rw [e, e2]; exact hr.1, by rw [e, e2]; exact hr.2⟩
theorem sumK_rng {nl : Nat} {qs : List Queue} (hq : ∀ q ∈ qs, QSum nl q) {i : Nat} (hi : i < nl) : ∀ n (ks : List (List UInt8)), ks.length = n → (∀ k ∈ ks, qs.any (pathP k) = true) → 0 ≤ sumK qs i ks ∧ sumK qs i ks ≤ 10000 * n
  | 0, ks, h, _ => by
    have : ks = [] := List.length_eq_zero_iff.1 h
    subst this
    simp [sumK]
  | n + 1, ks, h, hk => by
    have hne : ks ≠ [] := by rintro rfl; simp at h
    have e := List.dropLast_concat_getLast hne
    rw [← e, sumK_snoc]
    have ih := sumK_rng hq hi n ks.dropLast (by simp [h]) (fun k hk' => hk k (List.dropLast_subset _ hk'))
    obtain ⟨j, hj, h1, h2, h3, h4⟩ := least_rng hq hi (hk _ (List.getLast_mem hne))
    omega
set_option maxHeartbeats 16000000 in
theorem sums_ok (tl tq : Bool) (ls : List (List UInt8)) (qs : List Queue) (hls : ls.length ≤ 2 ^ 40) (hl : qs.length ≤ 2 ^ 40) (hne : qs ≠ []) (hq : ∀ q ∈ qs, QSum ls.length q) :
    PCall Tryd.prog 27 [CONF tl tq ls qs] (.int .i64 (sumsP ls.length qs)) := by
  unfold PCall
  have hpos : 0 < qs.length := List.length_pos_iff.2 hne
  have hg0 : qs.getD 0 default = qs[0] := by simp [hpos]
  have hx0 := hq _ (List.getElem_mem hpos)
  have hqo : ∀ q ∈ qs, QOk q := fun q h => (hq q h).toQOk
  refine acall_of is27 (by simp) ?_
  unfold cc27 CONF
  simp -implicitDefEqProofs (maxSteps := 500000) (disch := first | decide | omega) only [↓preS, allS, decS, simprocAttr, queS, queD, hg0]
  repeat (refine And.intro (by omega) ?_)
  unfold cc27L3
  simp -implicitDefEqProofs (maxSteps := 500000) (disch := first | decide | omega) only [↓preS, allS, decS, simprocAttr]
  have hcl := hx0.len
  have hP1 : qs[0].caps.any notW = true → sumsP ls.length qs = 13 := fun h => by unfold sumsP; rw [hg0, if_pos h]
  have hP2 : qs[0].caps.any notW = false → sumsP ls.length qs = if qs.any (sumsBad ls.length qs) then 13 else 0 := fun h => by unfold sumsP; rw [hg0, h]; simp
  generalize qs[0].caps = cs at hcl hP1 hP2
  refine aw_loopS (σ := Nat) (fun i => ⟨[(1, .ref 0 0 0), (18, .sl false 2 (cs.map CAP)), (19, .int .i64 (cs.length : Int)), (20, .int .i64 (i : Int))], [.box [.sl tl 1 (ls.map AV.str), .sl tq 3 (qs.map QUE)]]⟩)
    (fun i => i ≤ cs.length ∧ ∀ j, (h : j < i) → (h2 : j < cs.length) → notW cs[j] = false) (fun i => cs.length - i) 0 (.inl rfl) ⟨by omega, fun j h => by omega⟩ ?_
  rintro i ⟨hii, hn⟩
  unfold cc27l3
  by_cases hil : i < cs.length
  · have hg : cs.getD i default = cs[i] := by simp [hil]
    have hbad : notW cs[i] = true → sumsP ls.length qs = 13 := fun h => hP1 (List.any_eq_true.2 ⟨_, List.getElem_mem hil, h⟩)
    have hgo : notW cs[i] = false → ∀ j, (h : j < i + 1) → (h2 : j < cs.length) → notW cs[j] = false := fun h j hj h2 => by
      by_cases hji : j = i
      · subst hji; exact h
      · exact hn j (by omega) h2
    by_cases h1 : cs[i].least = 10000
    · by_cases h2 : cs[i].most = 10000
      · have hw : notW cs[i] = false := by simp [notW, h1, h2]
        simp -implicitDefEqProofs (maxSteps := 500000) (disch := first | decide | omega) only [↓preS, allS, decS, simprocAttr, hg, capS, List.append_nil]
        refine ⟨by omega, by omega, i + 1, (by (refine Sub.ofL [some 0] rfl (by simp) (by decide) (by simp [partL, AO.ro, AV.ro, AV.roL, names, AO.empty, SB, U8, SI, I64, STR] <;> (try and_intros) <;> rfl) (by simp [AO.bo, AV.bo, AV.boL, names] <;> (try and_intros) <;> rfl) ?_ <;> (try simp only [List.map_cons, List.map_nil, regsL, AV.ro, AV.roL, AV.bo, AV.boL, names, get_here, get_there, Nat.reduceBEq, List.getD_cons_zero, List.getD_cons_succ, List.getD_nil, and_true, true_and, Nat.reduceLT, List.length_cons, List.length_nil, Nat.reduceAdd, decide_true, Option.isSome_some, Bool.true_or, Bool.and_self, Option.isSome_none, Bool.false_or, beq_self_eq_true, wk0_self, wk0_nils]) <;> (try and_intros) <;> (first | done | rfl | exact .inl rfl | exact .inr ⟨rfl, _, _, rfl⟩ | (simp; done) | (simp; omega) | (refine .inl ?_; simp; done) | (refine .inl ?_; simp; omega)))), ⟨by omega, hgo hw⟩, by omega⟩
      · have hw : notW cs[i] = true := by simp [notW, h2]
        simp -implicitDefEqProofs (maxSteps := 500000) (disch := first | decide | omega) only [↓preS, allS, decS, simprocAttr, hg, capS, List.append_nil]
        rw [hbad hw]
        exact ⟨by omega, by omega, rfl⟩
    · have hw : notW cs[i] = true := by simp [notW, h1]
      simp -implicitDefEqProofs (maxSteps := 500000) (disch := first | decide | omega) only [↓preS, allS, decS, simprocAttr, hg, capS, List.append_nil]
      rw [hbad hw]
      exact ⟨by omega, by omega, rfl⟩
  · have hP := hP2 (by
      rw [List.any_eq_false]
      intro c hc
      obtain ⟨j, hj, rfl⟩ := List.getElem_of_mem hc
      rw [hn j (by omega) hj]
      simp)
    clear hP1 hP2 hn
    simp -implicitDefEqProofs (maxSteps := 500000) (disch := first | decide | omega) only [↓preS, allS, decS, simprocAttr]
    unfold cc27L2
    simp -implicitDefEqProofs (maxSteps := 500000) (disch := first | decide | omega) only [↓preS, allS, decS, simprocAttr]
    refine aw_loopS (σ := Nat) (fun i => ⟨[(1, .ref 0 0 0), (34, .sl tq 3 (qs.map QUE)), (35, .int .i64 (qs.length : Int)), (36, .int .i64 (i : Int))], [.box [.sl tl 1 (ls.map AV.str), .sl tq 3 (qs.map QUE)]]⟩)
      (fun i => i ≤ qs.length ∧ ∀ j, (h : j < i) → (h2 : j < qs.length) → sumsBad ls.length qs qs[j] = false) (fun i => qs.length - i) 0 (.inl rfl) ⟨by omega, fun j h => by omega⟩ ?_
    rintro m ⟨hmm, hn⟩
    unfold cc27l2
    by_cases hml : m < qs.length
    · have hg : qs.getD m default = qs[m] := by simp [hml]
      have hx := hq _ (List.getElem_mem hml)
      have hpl := hx.path
      have hbad : sumsBad ls.length qs qs[m] = true → sumsP ls.length qs = 13 := fun h => by rw [hP, if_pos (List.any_eq_true.2 ⟨_, List.getElem_mem hml, h⟩)]
      have hgo : sumsBad ls.length qs qs[m] = false → ∀ j, (h : j < m + 1) → (h2 : j < qs.length) → sumsBad ls.length qs qs[j] = false := fun h j hj h2 => by
        by_cases hji : j = m
        · subst hji; exact h
        · exact hn j (by omega) h2
      have ck := kids_ok tl tq ls qs qs[m].path hl hqo
      have hkm : ∀ k ∈ kidsL qs[m].path qs, qs.any (pathP k) = true := fun k h => kids_mem h
      have hkl := kids_len qs[m].path qs
      have hsb : sumsBad ls.length qs qs[m] = (!(kidsL qs[m].path qs).isEmpty && (List.range ls.length).any fun i => decide (sumK qs i (kidsL qs[m].path qs) ≠ 10000)) := rfl
      generalize kidsL qs[m].path qs = ks at ck hkm hkl hsb
      unfold CONF at ck
      simp -implicitDefEqProofs (maxSteps := 500000) (disch := first | decide | omega) only [↓preS, allS, decS, simprocAttr, hg, queS, List.append_nil]
      refine ⟨by omega, by omega, ?_⟩
      refine acK_of (FCall.of (lent := false) (ck) (.refl rfl) rfl (by simp)) ?_
      simp -implicitDefEqProofs (maxSteps := 500000) (disch := first | decide | omega) only [↓preS, allS, decS, simprocAttr]
      unfold cc27L1
      simp -implicitDefEqProofs (maxSteps := 500000) (disch := first | decide | omega) only [↓preS, allS, decS, simprocAttr]
      refine aw_loopS (σ := Nat) (fun n => ⟨[(1, .ref 0 0 0), (7, .sl false 1 (ks.map AV.str)), (34, .sl tq 3 (qs.map QUE)), (35, .int .i64 (qs.length : Int)), (36, .int .i64 (m : Int)), (46, .int .i64 (ls.length : Int)), (47, .int .i64 (n : Int))], [.box [.sl tl 1 (ls.map AV.str), .sl tq 3 (qs.map QUE)]]⟩)
        (fun n => n ≤ ls.length ∧ ∀ j, (h : j < n) → ks ≠ [] → sumK qs j ks = 10000) (fun n => ls.length - n) 0 (by (refine Sub.ofL [some 0] rfl (by simp) (by decide) (by simp [partL, AO.ro, AV.ro, AV.roL, names, AO.empty, SB, U8, SI, I64, STR] <;> (try and_intros) <;> rfl) (by simp [AO.bo, AV.bo, AV.boL, names] <;> (try and_intros) <;> rfl) ?_ <;> (try simp only [List.map_cons, List.map_nil, regsL, AV.ro, AV.roL, AV.bo, AV.boL, names, get_here, get_there, Nat.reduceBEq, List.getD_cons_zero, List.getD_cons_succ, List.getD_nil, and_true, true_and, Nat.reduceLT, List.length_cons, List.length_nil, Nat.reduceAdd, decide_true, Option.isSome_some, Bool.true_or, Bool.and_self, Option.isSome_none, Bool.false_or, beq_self_eq_true, wk0_self, wk0_nils]) <;> (try and_intros) <;> (first | done | rfl | exact .inl rfl | exact .inr ⟨rfl, _, _, rfl⟩ | (simp; done) | (simp; omega) | (refine .inl ?_; simp; done) | (refine .inl ?_; simp; omega)))) ⟨by omega, fun j h => by omega⟩ ?_
      rintro n ⟨hnn, hall⟩
      unfold cc27l1
      by_cases hnl : n < ls.length
      · simp -implicitDefEqProofs (maxSteps := 500000) (disch := first | decide | omega) only [↓preS, allS, decS, simprocAttr]
        unfold cc27L0
        simp -implicitDefEqProofs (maxSteps := 500000) (disch := first | decide | omega) only [↓preS, allS, decS, simprocAttr]
        have hsr := fun kk hkk => sumK_rng hq hnl kk (ks.take kk) hkk
        refine aw_loopS (σ := Nat) (fun j => ⟨[(1, .ref 0 0 0), (7, .sl false 1 (ks.map AV.str)), (8, .int .i64 (n : Int)), (9, .int .i64 (sumK qs n (ks.take j))), (34, .sl tq 3 (qs.map QUE)), (35, .int .i64 (qs.length : Int)), (36, .int .i64 (m : Int)), (46, .int .i64 (ls.length : Int)), (47, .int .i64 (n : Int)), (50, .sl false 1 (ks.map AV.str)), (51, .int .i64 (ks.length : Int)), (52, .int .i64 (j : Int))], [.box [.sl tl 1 (ls.map AV.str), .sl tq 3 (qs.map QUE)]]⟩)
          (fun j => j ≤ ks.length) (fun j => ks.length - j) 0 ?_ (by omega) ?_
        · (refine Sub.ofL [some 0] rfl (by simp) (by decide) (by simp [partL, AO.ro, AV.ro, AV.roL, names, AO.empty, SB, U8, SI, I64, STR] <;> (try and_intros) <;> rfl) (by simp [AO.bo, AV.bo, AV.boL, names] <;> (try and_intros) <;> rfl) ?_ <;> (try simp only [List.map_cons, List.map_nil, regsL, AV.ro, AV.roL, AV.bo, AV.boL, names, get_here, get_there, Nat.reduceBEq, List.getD_cons_zero, List.getD_cons_succ, List.getD_nil, and_true, true_and, Nat.reduceLT, List.length_cons, List.length_nil, Nat.reduceAdd, decide_true, Option.isSome_some, Bool.true_or, Bool.and_self, Option.isSome_none, Bool.false_or, beq_self_eq_true, wk0_self, wk0_nils]) <;> (try and_intros) <;> (first | done | rfl | exact .inl rfl | exact .inr ⟨rfl, _, _, rfl⟩ | (simp; done) | (simp; omega) | (refine .inl ?_; simp; done) | (refine .inl ?_; simp; omega)))
        intro j hj
        unfold cc27l0
        have hr := sumK_rng hq hnl (ks.take j).length (ks.take j) rfl fun k hk => hkm k (List.mem_of_mem_take hk)
        have hjl0 : (ks.take j).length = j := by simp; omega
        rw [hjl0] at hr
        by_cases hjl : j < ks.length
        · have hgk : ks.getD j default = ks[j] := by simp [hjl]
          obtain ⟨a, ha, e1, e2, e3, e4⟩ := least_rng hq hnl (hkm _ (List.getElem_mem hjl))
          have hxa := hq _ (List.getElem_mem ha)
          have cf := find_ok tl tq ls qs ks[j] (by omega) a ha e1 ⟨hxa.caps, hxa.len⟩
          have hsn := sumK_snoc qs n (ks.take j) ks[j]
          rw [← List.take_succ_eq_append_getElem hjl, e2] at hsn
          rw [e2] at e3 e4
          have hca : n < qs[a].caps.length := by rw [hxa.nl]; exact hnl
          generalize qs[a] = q at cf hsn e3 e4 hca
          unfold CONF at cf
          simp -implicitDefEqProofs (maxSteps := 500000) (disch := first | decide | omega) only [↓preS, allS, decS, simprocAttr, hgk]
          refine ⟨by omega, by omega, ?_⟩
          refine acK_of (FCall.of (lent := false) (cf) (.refl rfl) rfl (by simp)) ?_
          simp -implicitDefEqProofs (maxSteps := 500000) (disch := first | decide | omega) only [↓preS, allS, decS, simprocAttr, queS, queD, capS, List.append_nil]
          refine ⟨by omega, by omega, j + 1, ?_, by omega, by omega⟩
          rw [hsn]
          (refine Sub.ofL [some 0] rfl (by simp) (by decide) (by simp [partL, AO.ro, AV.ro, AV.roL, names, AO.empty, SB, U8, SI, I64, STR] <;> (try and_intros) <;> rfl) (by simp [AO.bo, AV.bo, AV.boL, names] <;> (try and_intros) <;> rfl) ?_ <;> (try simp only [List.map_cons, List.map_nil, regsL, AV.ro, AV.roL, AV.bo, AV.boL, names, get_here, get_there, Nat.reduceBEq, List.getD_cons_zero, List.getD_cons_succ, List.getD_nil, and_true, true_and, Nat.reduceLT, List.length_cons, List.length_nil, Nat.reduceAdd, decide_true, Option.isSome_some, Bool.true_or, Bool.and_self, Option.isSome_none, Bool.false_or, beq_self_eq_true, wk0_self, wk0_nils]) <;> (try and_intros) <;> (first | done | rfl | exact .inl rfl | exact .inr ⟨rfl, _, _, rfl⟩ | (simp; done) | (simp; omega) | (refine .inl ?_; simp; done) | (refine .inl ?_; simp; omega)))
        · have : j = ks.length := by omega
          subst this
          rw [List.take_length]
          rw [List.take_length] at hr
          rcases List.eq_nil_or_concat ks with hk0 | ⟨l0, b0, hk0⟩
          · subst hk0
            simp -implicitDefEqProofs (maxSteps := 500000) (disch := first | decide | omega) only [↓preS, allS, decS, simprocAttr]
            exact ⟨n + 1, by (refine Sub.ofL [some 0] rfl (by simp) (by decide) (by simp [partL, AO.ro, AV.ro, AV.roL, names, AO.empty, SB, U8, SI, I64, STR] <;> (try and_intros) <;> rfl) (by simp [AO.bo, AV.bo, AV.boL, names] <;> (try and_intros) <;> rfl) ?_ <;> (try simp only [List.map_cons, List.map_nil, regsL, AV.ro, AV.roL, AV.bo, AV.boL, names, get_here, get_there, Nat.reduceBEq, List.getD_cons_zero, List.getD_cons_succ, List.getD_nil, and_true, true_and, Nat.reduceLT, List.length_cons, List.length_nil, Nat.reduceAdd, decide_true, Option.isSome_some, Bool.true_or, Bool.and_self, Option.isSome_none, Bool.false_or, beq_self_eq_true, wk0_self, wk0_nils]) <;> (try and_intros) <;> (first | done | rfl | exact .inl rfl | exact .inr ⟨rfl, _, _, rfl⟩ | (simp; done) | (simp; omega) | (refine .inl ?_; simp; done) | (refine .inl ?_; simp; omega))), ⟨by omega, fun j h hne => absurd rfl hne⟩, by omega⟩
          · have hkp : 0 < ks.length := by rw [hk0]; simp
            have hkne : ks ≠ [] := List.length_pos_iff.1 hkp
            by_cases h10 : sumK qs n ks = 10000
            · simp -implicitDefEqProofs (maxSteps := 500000) (disch := first | decide | omega) only [↓preS, allS, decS, simprocAttr]
              refine ⟨n + 1, by (refine Sub.ofL [some 0] rfl (by simp) (by decide) (by simp [partL, AO.ro, AV.ro, AV.roL, names, AO.empty, SB, U8, SI, I64, STR] <;> (try and_intros) <;> rfl) (by simp [AO.bo, AV.bo, AV.boL, names] <;> (try and_intros) <;> rfl) ?_ <;> (try simp only [List.map_cons, List.map_nil, regsL, AV.ro, AV.roL, AV.bo, AV.boL, names, get_here, get_there, Nat.reduceBEq, List.getD_cons_zero, List.getD_cons_succ, List.getD_nil, and_true, true_and, Nat.reduceLT, List.length_cons, List.length_nil, Nat.reduceAdd, decide_true, Option.isSome_some, Bool.true_or, Bool.and_self, Option.isSome_none, Bool.false_or, beq_self_eq_true, wk0_self, wk0_nils]) <;> (try and_intros) <;> (first | done | rfl | exact .inl rfl | exact .inr ⟨rfl, _, _, rfl⟩ | (simp; done) | (simp; omega) | (refine .inl ?_; simp; done) | (refine .inl ?_; simp; omega))), ⟨by omega, fun j h hne => ?_⟩, by omega⟩
              by_cases hjn : j = n
              · subst hjn; exact h10
              · exact hall j (by omega) hne
            · have hb : sumsBad ls.length qs qs[m] = true := by
                rw [hsb]
                have : ks.isEmpty = false := by
                  cases hk1 : ks with
                  | nil => exact absurd hk1 hkne
                  | cons x l => rfl
                rw [this]
                simp only [Bool.not_false, Bool.true_and]
                exact List.any_eq_true.2 ⟨n, List.mem_range.2 hnl, by simp [h10]⟩
              have h13 := hbad hb
              simp -implicitDefEqProofs (maxSteps := 500000) (disch := first | decide | omega) only [↓preS, allS, decS, simprocAttr]
              rw [h13]
      · have hb : sumsBad ls.length qs qs[m] = false := by
          rw [hsb]
          cases hk0 : ks with
          | nil => rfl
          | cons x ks' =>
            rw [hk0] at hall
            simp only [List.isEmpty_cons, Bool.not_false, Bool.true_and]
            rw [List.any_eq_false]
            intro j hj
            have := hall j (by have := List.mem_range.1 hj; omega) (by simp)
            simp [this]
        have hgo := hgo hb
        simp -implicitDefEqProofs (maxSteps := 500000) (disch := first | decide | omega) only [↓preS, allS, decS, simprocAttr]
        exact ⟨m + 1, by (refine Sub.ofL [some 0] rfl (by simp) (by decide) (by simp [partL, AO.ro, AV.ro, AV.roL, names, AO.empty, SB, U8, SI, I64, STR] <;> (try and_intros) <;> rfl) (by simp [AO.bo, AV.bo, AV.boL, names] <;> (try and_intros) <;> rfl) ?_ <;> (try simp only [List.map_cons, List.map_nil, regsL, AV.ro, AV.roL, AV.bo, AV.boL, names, get_here, get_there, Nat.reduceBEq, List.getD_cons_zero, List.getD_cons_succ, List.getD_nil, and_true, true_and, Nat.reduceLT, List.length_cons, List.length_nil, Nat.reduceAdd, decide_true, Option.isSome_some, Bool.true_or, Bool.and_self, Option.isSome_none, Bool.false_or, beq_self_eq_true, wk0_self, wk0_nils]) <;> (try and_intros) <;> (first | done | rfl | exact .inl rfl | exact .inr ⟨rfl, _, _, rfl⟩ | (simp; done) | (simp; omega) | (refine .inl ?_; simp; done) | (refine .inl ?_; simp; omega))), ⟨by omega, hgo⟩, by omega⟩
    · have hP0 : sumsP ls.length qs = 0 := by
        rw [hP, if_neg]
        rw [Bool.not_eq_true, List.any_eq_false]
        intro c hc
        obtain ⟨j, hj, rfl⟩ := List.getElem_of_mem hc
        rw [hn j (by omega) hj]
        simp
      simp -implicitDefEqProofs (maxSteps := 500000) (disch := first | decide | omega) only [↓preS, allS, decS, simprocAttr]
      rw [hP0]
theorem is_ls {ls : List (List UInt8)} (h : LabOk ls) : ls ≠ [] := by
  rintro rfl
  have := h.first
  simp at this
theorem check_ok (tl tq : Bool) (ls : List (List UInt8)) (qs : List Queue) (hls : LabOk ls) (hl : qs.length ≤ 16) (hne : qs ≠ []) (h0 : (qs.getD 0 default).path = rootS) (hq : ∀ q ∈ qs, QSum ls.length q) :
    PCall Tryd.prog 12 [CONF tl tq ls qs] (.int .i64 (if queuesP ls.length true [] [] qs ≠ 0 then queuesP ls.length true [] [] qs else sumsP ls.length qs)) := by
  unfold PCall
  have hlp : 0 < ls.length := List.length_pos_iff.2 (is_ls hls)
  have hl3 := hls.len
  have hpos : 0 < qs.length := List.length_pos_iff.2 hne
  have hg0 : qs.getD 0 default = qs[0] := by simp [hpos]
  have cl := labels_ok tl ls hls
  have cq := queues_ok tl tq ls qs (by omega) (by omega) fun q h => (hq q h).toQOk
  have cs := sums_ok tl tq ls qs (by omega) (by omega) hne hq
  have h0b : (qs[0].path == [114, 111, 111, 116]) = true := by
    rw [hg0] at h0
    rw [h0]
    rfl
  refine acall_of is12 (by simp) ?_
  unfold cc12
  unfold CONF at cq cs ⊢
  generalize queuesP ls.length true [] [] qs = e at cq
  simp -implicitDefEqProofs (maxSteps := 500000) (disch := first | decide | omega) only [↓preS, allS, decS, simprocAttr]
  refine acK_of (FCall.of (lent := false) (cl) (.refl rfl) rfl (by simp)) ?_
  simp -implicitDefEqProofs (maxSteps := 500000) (disch := first | decide | omega) only [↓preS, allS, decS, simprocAttr, queS, hg0, h0b, Bool.not_true]
  refine ⟨by omega, ?_⟩
  refine acK_of (FCall.of (lent := false) (cq) (.refl rfl) rfl (by simp)) ?_
  by_cases he : e = 0
  · rw [if_neg (by simp [he])]
    simp -implicitDefEqProofs (maxSteps := 500000) (disch := first | decide | omega) only [↓preS, allS, decS, simprocAttr]
    refine acK_of (FCall.of (lent := false) (cs) (.refl rfl) rfl (by simp)) ?_
    simp -implicitDefEqProofs (maxSteps := 500000) (disch := first | decide | omega) only [↓preS, allS, decS, simprocAttr]
  · rw [if_pos he]
    simp -implicitDefEqProofs (maxSteps := 500000) (disch := first | decide | omega) only [↓preS, allS, decS, simprocAttr]
end Go.Proofs.YtcplpegahpmnjaaDoor
