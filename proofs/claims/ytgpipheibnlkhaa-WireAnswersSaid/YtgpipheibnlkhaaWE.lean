/- What functions of the program compute. No condition. -/
import Derived.Test.YtgpipheibnlkhaaWD
set_option linter.unusedSimpArgs false
set_option linter.unusedVariables false
namespace Go.Proofs.Ytgpipheibnlkhaa
open Go Go.Ab

structure Cont.Rg (c : Cont) : Prop where
  (id : Rng c.id)
  (app : Rng c.app)
  (node : Rng c.node)
  (mem : Rng c.mem)
  (cores : Rng c.cores)
  (prio : Rng c.prio)
  (label : Rng c.label)
  (notice : Rng c.notice)
structure Out.Rg (o : Out) : Prop where
  (conts : ∀ c ∈ o.conts, c.Rg)
  (ids : ∀ x ∈ o.ids, Rng x)
  (gone : ∀ x ∈ o.gone, Rng x)
  (n : Rng o.n)

theorem mark_rng (c : Cont) : Rng (if c.master then (1 : Int) else 0) := by
  cases c.master
  · exact ⟨by simp, by simp⟩
  · exact ⟨by simp, by simp⟩
theorem markR_w (c : Cont) (s : RS) : markR (if c.master then (1 : Int) else 0) s = s := by
  unfold markR
  cases c.master <;> rfl
theorem mark_eq (c : Cont) : ((if c.master then (1 : Int) else 0) == 1) = c.master := by cases c.master <;> rfl

theorem cont1_w (c : Cont) (h : c.Rg) (r : List UInt8) : cont1 ⟨ints (contI c) ++ r, 0⟩ = (c, ⟨r, 0⟩) := by
  obtain ⟨h1, h2, h3, h4, h5, h6, h7, h8⟩ := h
  unfold cont1 contI
  simp only [ints_cons, ints_nil, intR_w _ _ h1, intR_w _ _ h2, intR_w _ _ h3, intR_w _ _ h4, intR_w _ _ h5, intR_w _ _ h6, intR_w _ _ h7, intR_w _ _ (mark_rng c), markR_w, intR_w _ _ h8, mark_eq]

theorem contsN_w : ∀ (l : List Cont) (h : ∀ c ∈ l, c.Rg) (r : List UInt8), contsN l.length ⟨(l.flatMap fun c => ints (contI c)) ++ r, 0⟩ = (l, ⟨r, 0⟩)
  | [], _, r => rfl
  | c :: l, h, r => by
    rw [List.length_cons, contsN, List.flatMap_cons, List.append_assoc, cont1_w c (h c List.mem_cons_self)]
    simp only [contsN_w l (fun b hb => h b (List.mem_cons_of_mem _ hb)) r]

theorem encO_cons (o : Out) (r : List UInt8) : encO o ++ r = be 8 o.err ++ (be 8 (o.conts.length : Int) ++ ((o.conts.flatMap fun c => ints (contI c)) ++ (intsL o.ids ++ (intsL o.gone ++ (be 8 o.n ++ r))))) := by
  unfold encO
  simp only [List.append_assoc, ints_cons, ints_nil]

theorem parsO_w {o : Out} (h : wrongO o = 0) (hr : o.Rg) (r : List UInt8) : parsO ⟨encO o ++ r, 0⟩ = (o, ⟨r, 0⟩) := by
  obtain ⟨h1, h2, h3, h4, h5, h6⟩ := wrongO_zero h
  have e1 : errO ⟨encO o ++ r, 0⟩ = (o.err, ⟨be 8 (o.conts.length : Int) ++ ((o.conts.flatMap fun c => ints (contI c)) ++ (intsL o.ids ++ (intsL o.gone ++ (be 8 o.n ++ r)))), 0⟩) := by
    unfold errO
    rw [encO_cons, intR_w _ _ ⟨by omega, by omega⟩]
    simp only
    rw [if_neg (by omega)]
  have e2 : ∀ q : List UInt8, numO ⟨be 8 (o.conts.length : Int) ++ q, 0⟩ = ((o.conts.length : Int), ⟨q, 0⟩) := fun q => by
    unfold numO
    rw [intR_w _ _ ⟨by omega, by omega⟩]
    simp only
    rw [if_neg (by omega)]
  unfold parsO
  simp only [e1, e2, Int.toNat_natCast, contsN_w o.conts hr.conts, intsR_w _ _ (show o.ids.length ≤ 65535 by omega) hr.ids, intsR_w _ _ (show o.gone.length ≤ 65535 by omega) hr.gone, intR_w _ _ hr.n]

theorem parseO_w {o : Out} (h : wrongO o = 0) (hr : o.Rg) : parseO (encO o) = (o, 0) := by
  unfold parseO
  have := parsO_w h hr []
  rw [List.append_nil] at this
  rw [this]
  have hm := (wrongO_zero h).2.2.2.2.2
  unfold doneO endE
  simp [hm]

theorem parseO_more {o : Out} (h : wrongO o = 0) (hr : o.Rg) (x : UInt8) : parseO (encO o ++ [x]) = (zeroO, 9) := by
  unfold parseO
  rw [parsO_w h hr [x]]
  rfl

theorem markR_keep {m : Int} {s : RS} (h : s.e = 8) : markR m s = s := by
  unfold markR failR
  split
  · rw [if_neg (by omega)]
  · rfl
theorem cont1_keep {s : RS} (h : s.e = 8) : (cont1 s).2 = s := by simp only [cont1, int_keep h, markR_keep h]
theorem pre_cont1 {c : Cont} (h : c.Rg) {rest : List UInt8} {s : RS} (hp : Pre (ints (contI c) ++ rest) s) : Pre rest (cont1 s).2 := by
  obtain ⟨h1, h2, h3, h4, h5, h6, h7, h8⟩ := h
  simp only [contI, ints_cons, ints_nil] at hp
  have g := pre_int (mark_rng c) (pre_int h7 (pre_int h6 (pre_int h5 (pre_int h4 (pre_int h3 (pre_int h2 (pre_int h1 hp).1).1).1).1).1).1).1
  have g3 := g.2
  have g4 := g.1
  show Pre rest (intR (markR _ _)).2
  rcases g3 with g3 | g3
  · rw [markR_keep g3.1]
    exact (pre_int h8 g4).1
  · rw [g3.2, markR_w]
    exact (pre_int h8 g4).1
theorem pre_contsN : ∀ (l : List Cont) (h : ∀ c ∈ l, c.Rg) {rest : List UInt8} {s : RS} (hp : Pre ((l.flatMap fun c => ints (contI c)) ++ rest) s), Pre rest (contsN l.length s).2
  | [], _, rest, s, hp => hp
  | a :: l, h, rest, s, hp => by
    rw [List.flatMap_cons, List.append_assoc] at hp
    exact pre_contsN l (fun b hb => h b (List.mem_cons_of_mem _ hb)) (pre_cont1 (h a List.mem_cons_self) hp)

theorem pre_ints8 {x : List Int} {rest : List UInt8} {s : RS} (hx : x.length ≤ 65535) (hr : ∀ y ∈ x, Rng y) (h : s.e = 8) : Pre rest (intsR s).2 := by
  rw [ints_keep h]
  exact .inl h

theorem parseO_cut {o : Out} (h : wrongO o = 0) (hr : o.Rg) (k : Nat) (hk : k < (encO o).length) : parseO ((encO o).take k) = (zeroO, 8) := by
  obtain ⟨h1, h2, h3, h4, h5, h6⟩ := wrongO_zero h
  have hp : Pre (encO o ++ []) ⟨(encO o).take k, 0⟩ := by
    refine .inr ⟨rfl, (encO o).drop k, fun e => ?_, by rw [List.append_nil]; exact List.take_append_drop k _⟩
    have := congrArg List.length e
    rw [List.length_drop, List.length_nil] at this
    omega
  rw [encO_cons] at hp
  have he : (parsO ⟨(encO o).take k, 0⟩).2.e = 8 := by
    apply pre_nil
    have a1 := pre_int (x := o.err) ⟨by omega, by omega⟩ hp
    have b1 : (errO ⟨(encO o).take k, 0⟩).2 = (intR ⟨(encO o).take k, 0⟩).2 := by
      unfold errO failR
      rcases a1.2 with a2 | a2
      · rw [a2.2, if_neg (by omega)]
      · rw [a2.2, if_neg (by omega)]
    have a3 := a1.1
    rw [← b1] at a3
    show Pre [] (intR (intsR (intsR (contsN (numO (errO ⟨(encO o).take k, 0⟩).2).1.toNat (numO (errO ⟨(encO o).take k, 0⟩).2).2).2).2).2).2
    generalize (errO ⟨(encO o).take k, 0⟩).2 = s at a3
    have a4 := pre_int (x := (o.conts.length : Int)) ⟨by omega, by omega⟩ a3
    have hc : Pre (intsL o.ids ++ (intsL o.gone ++ (be 8 o.n ++ []))) (contsN (numO s).1.toNat (numO s).2).2 := by
      unfold numO
      rcases a4.2 with a5 | a5
      · rw [a5.2, if_neg (by omega)]
        exact .inl a5.1
      · rw [a5.2, if_neg (by omega)]
        simp only [Int.toNat_natCast]
        exact pre_contsN o.conts hr.conts a4.1
    exact (pre_int hr.n (pre_ints (by omega) hr.gone (pre_ints (by omega) hr.ids hc))).1
  unfold parseO doneO
  have : endE (parsO ⟨(encO o).take k, 0⟩).2 = 8 := by unfold endE; rw [if_neg (by omega), he]
  rw [this]
  rfl

theorem encO_le {o : Out} (h : wrongO o = 0) : (encO o).length ≤ 2 ^ 39 := by
  obtain ⟨h1, h2, h3, h4, h5, h6⟩ := wrongO_zero h
  unfold encO
  have a1 := conts_len o.conts
  have a2 := intsLn o.ids
  have a3 := intsLn o.gone
  simp only [List.length_append, ints_len, a1, List.length_cons, List.length_nil]
  omega
end Go.Proofs.Ytgpipheibnlkhaa
