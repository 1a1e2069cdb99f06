/- What functions of the program compute. No condition. -/
import Derived.Test.YtgpipheibnlkhaaWV
import Derived.Test.YtgpipheibnlkhaaWS
import Derived.Test.YtgpipheibnlkhaaWM
set_option linter.unusedSimpArgs false
set_option linter.unusedVariables false
namespace Go.Proofs.Ytgpipheibnlkhaa
open Go Go.Ab

theorem rng_ok {n : Int} (h : okI n) : Rng n := h

structure Ask.Rg (a : Ask) : Prop where
  prio : Rng a.prio
  label : Rng a.label
  mem : Rng a.mem
  cores : Rng a.cores
  count : Rng a.count
  node : Rng a.node
  rack : Rng a.rack

theorem ints_cons (x : Int) (l : List Int) (r : List UInt8) : ints (x :: l) ++ r = be 8 x ++ (ints l ++ r) := by
  unfold ints
  rw [List.flatMap_cons, List.append_assoc]
theorem ints_nil (r : List UInt8) : ints [] ++ r = r := rfl

theorem ask1_w (a : Ask) (h : a.Rg) (r : List UInt8) : ask1 ⟨ints (askI a) ++ r, 0⟩ = (a.strip, ⟨r, 0⟩) := by
  obtain ⟨h1, h2, h3, h4, h5, h6, h7⟩ := h
  unfold ask1 askI
  simp only [ints_cons, ints_nil, intR_w _ _ h1, intR_w _ _ h2, intR_w _ _ h3, intR_w _ _ h4, intR_w _ _ h5, intR_w _ _ h6, intR_w _ _ h7]
  rfl

theorem asksN_w : ∀ (l : List Ask) (h : ∀ a ∈ l, a.Rg) (r : List UInt8), asksN l.length ⟨(l.flatMap fun a => ints (askI a)) ++ r, 0⟩ = (l.map Ask.strip, ⟨r, 0⟩)
  | [], _, r => rfl
  | a :: l, h, r => by
    rw [List.length_cons, asksN, List.flatMap_cons, List.append_assoc, ask1_w a (h a List.mem_cons_self)]
    simp only [asksN_w l (fun b hb => h b (List.mem_cons_of_mem _ hb)) r, List.map_cons]

theorem asksR_w (l : List Ask) (h : ∀ a ∈ l, a.Rg) (hl : l.length ≤ 20) (r : List UInt8) : asksR ⟨be 8 (l.length : Int) ++ ((l.flatMap fun a => ints (askI a)) ++ r), 0⟩ = (l.map Ask.strip, ⟨r, 0⟩) := by
  unfold asksR
  have hr : Rng (l.length : Int) := ⟨by omega, by omega⟩
  rw [intR_w _ _ hr]
  simp only
  rw [if_neg (by omega), Int.toNat_natCast, asksN_w l h r]

/-- What is read of what was written. -/
def restr (g : Inp) : Inp :=
  if g.kind = 1 then { zInp g.kind with text := g.text }
  else if g.kind = 2 then { zInp g.kind with nId := g.nId, nLab := g.nLab, nRack := g.nRack, nMem := g.nMem, nCor := g.nCor }
  else if g.kind = 3 then { zInp g.kind with id := g.id, beat := g.beat, ids := g.ids }
  else if g.kind = 4 then { zInp g.kind with aId := g.aId, aQ := g.aQ, aUser := g.aUser, aPrio := g.aPrio, aMem := g.aMem, aCor := g.aCor }
  else if g.kind = 5 then { zInp g.kind with id := g.id, beat := g.beat, asks := g.asks.map Ask.strip, ids := g.ids }
  else if g.kind = 6 ∨ g.kind = 7 ∨ g.kind = 10 then { zInp g.kind with id := g.id }
  else if g.kind = 8 then { zInp g.kind with n := g.n }
  else if g.kind = 9 then { zInp g.kind with pId := g.pId, pLab := g.pLab, pFrom := g.pFrom, pUntil := g.pUntil, pMem := g.pMem, pCor := g.pCor, n := g.n }
  else zInp g.kind

/-- Numbers such as a machine has. -/
structure Inp.Rg (x : Inp) : Prop where
  (id : Rng x.id)
  (beat : Rng x.beat)
  (n : Rng x.n)
  (nId : Rng x.nId)
  (nLab : Rng x.nLab)
  (nRack : Rng x.nRack)
  (nMem : Rng x.nMem)
  (nCor : Rng x.nCor)
  (aId : Rng x.aId)
  (aUser : Rng x.aUser)
  (aPrio : Rng x.aPrio)
  (aMem : Rng x.aMem)
  (aCor : Rng x.aCor)
  (asks : ∀ a ∈ x.asks, a.Rg)
  (ids : ∀ a ∈ x.ids, Rng a)
  (pId : Rng x.pId)
  (pLab : Rng x.pLab)
  (pFrom : Rng x.pFrom)
  (pUntil : Rng x.pUntil)
  (pMem : Rng x.pMem)
  (pCor : Rng x.pCor)

theorem Ask.Ok.rg {a : Ask} (h : a.Ok) : a.Rg := ⟨h.prio, h.label, h.mem, h.cores, h.count, h.node, h.rack⟩
theorem Inp.Ok.rg {x : Inp} (h : x.Ok) : x.Rg := ⟨h.id, h.beat, h.n, h.nId, h.nLab, h.nRack, h.nMem, h.nCor, h.aId, h.aUser, h.aPrio, h.aMem, h.aCor, fun a ha => (h.asks.1 a ha).rg, h.ids.1, h.pId, h.pLab, h.pFrom, h.pUntil, h.pMem, h.pCor⟩
theorem Inp.Rg.good {x : Inp} (h : x.Rg) : (goodI x).Rg := ⟨h.id, h.beat, h.n, h.nId, h.nLab, h.nRack, h.nMem, h.nCor, h.aId, h.aUser, h.aPrio, h.aMem, h.aCor, fun a ha => h.asks a (List.mem_of_mem_take ha), fun a ha => h.ids a (List.mem_of_mem_take ha), h.pId, h.pLab, h.pFrom, h.pUntil, h.pMem, h.pCor⟩

/-- All of a body is read as it was written. -/
theorem parsB_w (g : Inp) (hr : g.Rg) (h4 : g.kind = 1 → g.text.length ≤ 65535) (h5 : g.kind = 4 → g.aQ.length ≤ 65535) (h6 : g.kind = 5 → g.asks.length ≤ 20) (h7 : g.kind = 3 ∨ g.kind = 5 → g.ids.length ≤ 65535) (r : List UInt8) : parsB g.kind ⟨body g ++ r, 0⟩ = (restr g, ⟨r, 0⟩) := by
  by_cases k1 : g.kind = 1
  · have e1 : body g = textL g.text := by unfold body; rw [if_pos k1]
    have e2 : restr g = { zInp g.kind with text := g.text } := by unfold restr; rw [if_pos k1]
    rw [e1, e2]
    unfold parsB
    rw [if_pos k1, textR_w _ _ (h4 k1)]
  by_cases k2 : g.kind = 2
  · have e1 : body g = ints [g.nId, g.nLab, g.nRack, g.nMem, g.nCor] := by unfold body; rw [if_neg k1, if_pos k2]
    have e2 : restr g = { zInp g.kind with nId := g.nId, nLab := g.nLab, nRack := g.nRack, nMem := g.nMem, nCor := g.nCor } := by unfold restr; rw [if_neg k1, if_pos k2]
    rw [e1, e2]
    unfold parsB
    rw [if_neg k1, if_pos k2]
    simp only [ints_cons, ints_nil, intR_w _ _ hr.nId, intR_w _ _ hr.nLab, intR_w _ _ hr.nRack, intR_w _ _ hr.nMem, intR_w _ _ hr.nCor]
  by_cases k3 : g.kind = 3
  · have e1 : body g = ints [g.id, g.beat] ++ intsL g.ids := by unfold body; rw [if_neg k1, if_neg k2, if_pos k3]
    have e2 : restr g = { zInp g.kind with id := g.id, beat := g.beat, ids := g.ids } := by unfold restr; rw [if_neg k1, if_neg k2, if_pos k3]
    rw [e1, e2]
    unfold parsB
    rw [if_neg k1, if_neg k2, if_pos k3]
    simp only [List.append_assoc, ints_cons, ints_nil, intR_w _ _ hr.id, intR_w _ _ hr.beat, intsR_w _ _ (h7 (.inl k3)) hr.ids]
  by_cases k4 : g.kind = 4
  · have e1 : body g = ints [g.aId] ++ textL g.aQ ++ ints [g.aUser, g.aPrio, g.aMem, g.aCor] := by unfold body; rw [if_neg k1, if_neg k2, if_neg k3, if_pos k4]
    have e2 : restr g = { zInp g.kind with aId := g.aId, aQ := g.aQ, aUser := g.aUser, aPrio := g.aPrio, aMem := g.aMem, aCor := g.aCor } := by unfold restr; rw [if_neg k1, if_neg k2, if_neg k3, if_pos k4]
    rw [e1, e2]
    unfold parsB
    rw [if_neg k1, if_neg k2, if_neg k3, if_pos k4]
    simp only [List.append_assoc, ints_cons, ints_nil, intR_w _ _ hr.aId, textR_w _ _ (h5 k4), intR_w _ _ hr.aUser, intR_w _ _ hr.aPrio, intR_w _ _ hr.aMem, intR_w _ _ hr.aCor]
  by_cases k5 : g.kind = 5
  · have e1 : body g = ints [g.id, g.beat, g.asks.length] ++ g.asks.flatMap (fun a => ints (askI a)) ++ intsL g.ids := by unfold body; rw [if_neg k1, if_neg k2, if_neg k3, if_neg k4, if_pos k5]; rfl
    have e2 : restr g = { zInp g.kind with id := g.id, beat := g.beat, asks := g.asks.map Ask.strip, ids := g.ids } := by unfold restr; rw [if_neg k1, if_neg k2, if_neg k3, if_neg k4, if_pos k5]
    rw [e1, e2]
    unfold parsB
    rw [if_neg k1, if_neg k2, if_neg k3, if_neg k4, if_pos k5]
    simp only [List.append_assoc, ints_cons, ints_nil, intR_w _ _ hr.id, intR_w _ _ hr.beat, asksR_w _ hr.asks (h6 k5), intsR_w _ _ (h7 (.inr k5)) hr.ids]
  by_cases k6 : g.kind = 6 ∨ g.kind = 7 ∨ g.kind = 10
  · have e1 : body g = ints [g.id] := by unfold body; rw [if_neg k1, if_neg k2, if_neg k3, if_neg k4, if_neg k5, if_pos k6]
    have e2 : restr g = { zInp g.kind with id := g.id } := by unfold restr; rw [if_neg k1, if_neg k2, if_neg k3, if_neg k4, if_neg k5, if_pos k6]
    rw [e1, e2]
    unfold parsB
    rw [if_neg k1, if_neg k2, if_neg k3, if_neg k4, if_neg k5, if_pos k6]
    simp only [ints_cons, ints_nil, intR_w _ _ hr.id]
  by_cases k8 : g.kind = 8
  · have e1 : body g = ints [g.n] := by unfold body; rw [if_neg k1, if_neg k2, if_neg k3, if_neg k4, if_neg k5, if_neg k6, if_pos k8]
    have e2 : restr g = { zInp g.kind with n := g.n } := by unfold restr; rw [if_neg k1, if_neg k2, if_neg k3, if_neg k4, if_neg k5, if_neg k6, if_pos k8]
    rw [e1, e2]
    unfold parsB
    rw [if_neg k1, if_neg k2, if_neg k3, if_neg k4, if_neg k5, if_neg k6, if_pos k8]
    simp only [ints_cons, ints_nil, intR_w _ _ hr.n]
  by_cases k9 : g.kind = 9
  · have e1 : body g = ints [g.pId, g.pLab, g.pFrom, g.pUntil, g.pMem, g.pCor, g.n] := by unfold body; rw [if_neg k1, if_neg k2, if_neg k3, if_neg k4, if_neg k5, if_neg k6, if_neg k8, if_pos k9]
    have e2 : restr g = { zInp g.kind with pId := g.pId, pLab := g.pLab, pFrom := g.pFrom, pUntil := g.pUntil, pMem := g.pMem, pCor := g.pCor, n := g.n } := by unfold restr; rw [if_neg k1, if_neg k2, if_neg k3, if_neg k4, if_neg k5, if_neg k6, if_neg k8, if_pos k9]
    rw [e1, e2]
    unfold parsB
    rw [if_neg k1, if_neg k2, if_neg k3, if_neg k4, if_neg k5, if_neg k6, if_neg k8, if_pos k9]
    simp only [ints_cons, ints_nil, intR_w _ _ hr.pId, intR_w _ _ hr.pLab, intR_w _ _ hr.pFrom, intR_w _ _ hr.pUntil, intR_w _ _ hr.pMem, intR_w _ _ hr.pCor, intR_w _ _ hr.n]
  have e1 : body g = [] := by unfold body; rw [if_neg k1, if_neg k2, if_neg k3, if_neg k4, if_neg k5, if_neg k6, if_neg k8, if_neg k9]
  have e2 : restr g = zInp g.kind := by unfold restr; rw [if_neg k1, if_neg k2, if_neg k3, if_neg k4, if_neg k5, if_neg k6, if_neg k8, if_neg k9]
  rw [e1, e2]
  unfold parsB
  rw [if_neg k1, if_neg k2, if_neg k3, if_neg k4, if_neg k5, if_neg k6, if_neg k8, if_neg k9]
  rfl
end Go.Proofs.Ytgpipheibnlkhaa
