/- The layer: steps as rewriting. No condition. -/
import Derived.Test.YtcplpegahpmnjaaDoorL3
import Derived.Handed
import Derived.OpenShut
import Derived.Recover
namespace Go.Ab
open Go
set_option linter.unusedSimpArgs false
set_option linter.unusedVariables false
def bindV (y : AV) (K : AV → Prop) : Prop := K y
def bindH (y : AV) (H : List AO) (K : AV → List AO → Prop) : Prop := K y H
def bindS (s : St) (K : St → Prop) : Prop := K s
theorem bindV_eq {y : AV} {K : AV → Prop} : bindV y K = K y := rfl
theorem bindH_eq {y : AV} {H : List AO} {K : AV → List AO → Prop} : bindH y H K = K y H := rfl
theorem bindS_eq {s : St} {K : St → Prop} : bindS s K = K s := rfl
def pickK (c a b : AV) (K : AV → Prop) : Prop :=
  match c with
  | .bool t => bindV (if t then a else b) K
  | _ => False
def nilckK (x : AV) (K : AV → Prop) : Prop :=
  match x with
  | .ref i j o => bindV (.ref i j o) K
  | .ip t cs => bindV (.ip t cs) K
  | .fn (.func f) a b => bindV (.fn (.func f) a b) K
  | _ => False
def beqK (neg : Bool) (x y : AV) (K : AV → Prop) : Prop :=
  match x, y with
  | .bool a, .bool b => bindV (.bool (if neg then !(a == b) else a == b)) K
  | _, _ => False
def seqK (neg : Bool) (ks : List AV) (x y : AV) (K : AV → Prop) : Prop :=
  match x, y with
  | .agg xs, .agg ys => ∃ b, scEqs ks xs ys = some b ∧ K (.bool (if neg then !b else b))
  | _, _ => False
def cviK (k : IntKind) (x : AV) (K : AV → Prop) : Prop :=
  match x with
  | .int _ n => bindV (.int k (k.wrap n)) K
  | _ => False
def cvsK (x : AV) (K : AV → Prop) : Prop :=
  match x with
  | .str s => bindV (.str s) K
  | _ => False
def slsK (x : AV) (lo hi : Option AV) (K : AV → Prop) : Prop :=
  match x with
  | .str s => bndK hi s.length fun h => h ≤ s.length ∧ bndK lo 0 fun lw => lw ≤ h ∧ bindV (.str ((s.take h).drop lw)) K
  | _ => False
def fadK (off : Nat) (x : AV) (K : AV → Prop) : Prop :=
  match x with
  | .ref id i o => bindV (.ref id i (o + off)) K
  | .ip t cs => bindV (.ip t (cs.drop off)) K
  | _ => False
def fldK (off n : Nat) (agg : Bool) (x : AV) (K : AV → Prop) : Prop :=
  match x with
  | .agg cs => off + n ≤ cs.length ∧ (agg = true ∨ n = 1) ∧ bindV (partOf cs off n agg) K
  | _ => False
def iadK (z : Nat) (x i : AV) (K : AV → Prop) : Prop :=
  match x, i with
  | .sl t z' l, .int _ j => z' = z ∧ 0 ≤ j ∧ j < l.length ∧ bindV (.ip t (l.getD j.toNat .top).cells) K
  | .own id z' off len, .int _ j => z' = z ∧ 0 ≤ j ∧ j < len ∧ bindV (.ref id (off + j.toNat) 0) K
  | _, _ => False
def iaaK (len z : Nat) (x i : AV) (K : AV → Prop) : Prop :=
  match x, i with
  | .ref id ii o, .int _ j => 0 ≤ j ∧ j < len ∧ bindV (.ref id ii (o + j.toNat * z)) K
  | .ip t cs, .int _ j => 0 ≤ j ∧ j < len ∧ bindV (.ip t (cs.drop (j.toNat * z))) K
  | _, _ => False
def ixsK (x i : AV) (K : AV → Prop) : Prop :=
  match x, i with
  | .str s, .int _ j => 0 ≤ j ∧ j < s.length ∧ bindV (.int .u8 (s.getD j.toNat 0).toNat) K
  | _, _ => False
def ixaK (len n : Nat) (agg : Bool) (x i : AV) (K : AV → Prop) : Prop :=
  match x, i with
  | .agg cs, .int _ j => 0 ≤ j ∧ j < len ∧ (j.toNat + 1) * n ≤ cs.length ∧ (agg = true ∨ n = 1) ∧ bindV (partOf cs (j.toNat * n) n agg) K
  | _, _ => False
def extK (i : Nat) (x : AV) (K : AV → Prop) : Prop :=
  match x with
  | .tup vs => i < vs.length ∧ bindV (vs.getD i .top) K
  | _ => False
def ldpK (n : Nat) (agg : Bool) (x : AV) (K : AV → Prop) : Prop :=
  match x with
  | .ip _ cs => n ≤ cs.length ∧ (agg = true ∨ n = 1) ∧ bindV (partOf cs 0 n agg) K
  | _ => False
def isiK (neg : Bool) (x : AV) (K : AV → Prop) : Prop :=
  match x with
  | .nili => bindV (.bool !neg) K
  | .ifc _ _ => bindV (.bool neg) K
  | _ => False
def tasK (t : TypeId) (x : AV) (K : AV → Prop) : Prop :=
  match x with
  | .ifc t' y => t' = t ∧ bindV (.tup [y, .bool true]) K
  | _ => False
def st0K (x v : AV) (H : List AO) (K : AV → List AO → Prop) : Prop :=
  match x, v with
  | .ref id 0 0, .agg [] => match H[id]? with
    | some (.box []) => bindH (.tup []) H K
    | _ => False
  | _, _ => False
def lensK (x : AV) (K : AV → Prop) : Prop :=
  match x with
  | .str s => bindV (.int .i64 s.length) K
  | _ => False
def lenlK (x : AV) (K : AV → Prop) : Prop :=
  match x with
  | .sl _ _ l => bindV (.int .i64 l.length) K
  | .own _ _ _ len => bindV (.int .i64 len) K
  | .nils => bindV (.int .i64 0) K
  | _ => False
def caplK (x : AV) (K : AV → Prop) : Prop :=
  match x with
  | .nils => bindV (.int .i64 0) K
  | .ownx _ _ _ _ c => bindV (.int .i64 c) K
  | _ => False
def mmaK (mx : Bool) (x : AV) (xs : List AV) (K : AV → Prop) : Prop :=
  match x with
  | .int k a => mmK mx k a xs K
  | _ => False
def bldK (zero : List AV) (ps : List (Nat × Nat × AV)) (K : AV → Prop) : Prop :=
  fillOk zero.length ps = true ∧ zero.all AV.one = true ∧ bindV (.agg (fillAV zero ps)) K
def ldoK (n : Nat) (agg : Bool) (i off : Nat) (o : Option AO) (K : AV → Prop) : Prop :=
  match o with
  | some (.box cs) => i = 0 ∧ off + n ≤ cs.length ∧ (agg = true ∨ n = 1) ∧ bindV (partOf cs off n agg) K
  | some (.arr z l) => i < l.length ∧ off + n ≤ z ∧ (agg = true ∨ n = 1) ∧ bindV (partOf (l.getD i .top).cells off n agg) K
  | _ => False
def ldK (n : Nat) (agg : Bool) (H : List AO) (x : AV) (K : AV → Prop) : Prop :=
  match x with
  | .ref id i off => ldoK n agg i off H[id]? K
  | .ip t cs => n ≤ cs.length ∧ (agg = true ∨ n = 1) ∧ bindV (partOf cs 0 n agg) K
  | _ => False
def cbsK (o : Option (List AV)) (K : AV → Prop) : Prop :=
  match o with
  | some l => ∃ s, bytesOf l = some s ∧ K (.str s)
  | none => False
def bxK (x : AV) (H : List AO) (K : AV → List AO → Prop) : Prop := x.cells.all AV.one = true ∧ bindH (.ref H.length 0 0) (H ++ [.box x.cells]) K
def stoK (n : Nat) (id i off : Nat) (o : Option AO) (v : AV) (H : List AO) (K : AV → List AO → Prop) : Prop :=
  match o with
  | some (.box cs) => i = 0 ∧ off + n ≤ cs.length ∧ v.cells.all AV.one = true ∧ bindH (.tup []) (H.set id (.box (cs.take off ++ v.cells ++ cs.drop (off + n)))) K
  | some (.arr z l) => i < l.length ∧ off + n ≤ z ∧ v.cells.all AV.ok = true ∧ bindH (.tup []) (H.set id (.arr z (l.set i (elemUpd (l.getD i .top) off n v.cells)))) K
  | _ => False
def stK (n : Nat) (x v : AV) (H : List AO) (K : AV → List AO → Prop) : Prop := v.cells.length = n ∧ match x with
  | .ref id i off => stoK n id i off H[id]? v H K
  | _ => False
def blsK (z len : Nat) (zero : AV) (ps : List (Nat × AV)) (H : List AO) (K : AV → List AO → Prop) : Prop :=
  len * z ≤ 2 ^ 24 ∧ zero.el z = true ∧ (ps.all fun p => decide (p.1 < len) && p.2.el z) = true ∧ bindH (.own H.length z 0 len) (H ++ [.arr z (fillEl (List.replicate len zero) ps)]) K
def mksK (z bytes : Nat) (zero l c : AV) (H : List AO) (K : AV → List AO → Prop) : Prop :=
  match l, c with
  | .int .i64 len, .int .i64 cap => 0 ≤ len ∧ len ≤ cap ∧ cap * bytes ≤ 2 ^ 47 ∧ cap < 2 ^ 63 ∧ zero.el z = true ∧ bindH (.own H.length z 0 len.toNat) (H ++ [.arr z (List.replicate len.toNat zero)]) K
  | _, _ => False
def notSl : AV → Bool
  | .sl _ _ _ => false
  | _ => true
def appK (z bytes : Nat) (s x : AV) (l m : Option (List AV)) (H : List AO) (K : AV → List AO → Prop) : Prop :=
  match l, m with
  | some l, some m => notSl s = true ∧ ((l.length + m.length) * bytes ≤ 2 ^ 47 ∧ l.length + m.length < 2 ^ 63) ∧ bindH (.own H.length z 0 (l.length + m.length)) (killOf H s ++ [.arr z (l ++ m)]) K
  | _, _ => False
def apzK (z bytes : Nat) (zero s x : AV) (l : Option (List AV)) (H : List AO) (K : AV → List AO → Prop) : Prop :=
  match l, x with
  | some l, .int _ n => notSl s = true ∧ (0 ≤ n ∧ n < 2 ^ 63) ∧ ((l.length + n.toNat) * bytes ≤ 2 ^ 47 ∧ l.length + n.toNat < 2 ^ 63) ∧ zero.el z = true ∧
        bindH (.own H.length z 0 (l.length + n.toNat)) (killOf H s ++ [.arr z (l ++ List.replicate n.toNat zero)]) K
  | _, _ => False
def apsK (bytes : Nat) (s x : AV) (l : Option (List AV)) (H : List AO) (K : AV → List AO → Prop) : Prop :=
  match l, x with
  | some l, .str m => notSl s = true ∧ ((l.length + m.length) * bytes ≤ 2 ^ 47 ∧ l.length + m.length < 2 ^ 63) ∧
        bindH (.own H.length 1 0 (l.length + m.length)) (killOf H s ++ [.arr 1 (l ++ m.map fun b => .int .u8 b.toNat)]) K
  | _, _ => False
def cvbK (x : AV) (H : List AO) (K : AV → List AO → Prop) : Prop :=
  match x with
  | .own id z off len => match H[id]? with
    | some (.arr z' _) => (0 < len ∧ z' = 1) ∧ bindH (.own id z off len) H K
    | _ => False
  | _ => False
def csbK (x : AV) (H : List AO) (K : AV → List AO → Prop) : Prop :=
  match x with
  | .str s => s.length ≤ 2 ^ 47 ∧ bindH (.own H.length 1 0 s.length) (H ++ [.arr 1 (s.map fun b => .int .u8 b.toNat)]) K
  | _ => False
def acK (P : Program) (f : FuncId) (args : List AV) (H : List AO) (K Kp : AV → List AO → Prop) : Prop := ACallP P f args H K Kp
def fcK (P : Program) (f : FuncId) (args : List AV) (H : List AO) (K : AV → List AO → Prop) : Prop := ∃ y, FCall P f args H y ∧ K y H
def calvK (P : Program) (x : AV) (args : List AV) (H : List AO) (K Kp : AV → List AO → Prop) : Prop :=
  match x with
  | .fn (.func f) first cap => acK P f (first ++ args ++ cap) H K Kp
  | _ => False
def calvD (P : Program) (x : AV) (args : List AV) (H : List AO) (K : AV → List AO → Prop) : Prop :=
  match x with
  | .fn (.func f) first cap => fcK P f (first ++ args ++ cap) H K
  | _ => False
theorem acK_of {P : Program} {f : FuncId} {args : List AV} {H : List AO} {y : AV} {K Kp : AV → List AO → Prop} (h : FCall P f args H y) (hk : K y H) : acK P f args H K Kp := (ACall.ofF (K := K) h hk).to fun _ _ h => h
def panK (x : AV) (H : List AO) (Kp : AV → List AO → Prop) : Prop :=
  match x with
  | .ifc t y => Kp (.ifc t y) H
  | _ => False
def nxt (P : Program) (d : Bool) (t : Nat) (l : List COper) (r : Regs) (L : St → Prop) (Lp : AV → St → Prop) (y : AV) (H : List AO) : Prop := opsK P d l ⟨(t, y) :: r, H⟩ L Lp
def nxt0 (P : Program) (d : Bool) (l : List COper) (r : Regs) (L : St → Prop) (Lp : AV → St → Prop) (y : AV) (H : List AO) : Prop := opsK P d l ⟨r, H⟩ L Lp
def panR (r : Regs) (Lp : AV → St → Prop) (x : AV) (H : List AO) : Prop := Lp x ⟨r, H⟩
def opX (P : Program) (d : Bool) (c : CO) (e : Operand → AV) (H : List AO) (K Kp : AV → List AO → Prop) : Prop := if d then opD P c e H K else opK P c e H K Kp
def gK (P : Program) (d : Bool) (t : Option Nat) (c : CO) (w : Bool) (l : List COper) (r : Regs) (H : List AO) (L : St → Prop) (Lp : AV → St → Prop) (b : AV) : Prop :=
  match b with
  | .bool b => if b = w then opX P d c (Ab.ev r.get) H (fun y H' => opsK P d l ⟨Regs.put r t y, H'⟩ L Lp) (panR r Lp) else opsK P d l ⟨Regs.put r t (.tup []), H⟩ L Lp
  | .tup [] => opsK P d l ⟨Regs.put r t (.tup []), H⟩ L Lp
  | _ => False
def regEnd (frz : List Nat) (keep : Option (List Nat)) (K : St → Prop) (s : St) : Prop := frzK frz s fun s' => bindS (keepK keep s') K
def awK (P : Program) (b : CC) (Q : AE → St → Prop) (s : St) : Prop := aw P b Q s
def cK (P : Program) (t f : CC) (Q : AE → St → Prop) (s : St) (c : AV) : Prop :=
  match c with
  | .bool b => if b = true then aw P t Q s else aw P f Q s
  | _ => False
def panQ0 (D : List Nat) (Q : AE → St → Prop) (x : AV) (s : St) : Prop := Q (.pan x) ⟨dropR D s.r, s.H⟩
theorem dropR_nil {D : List Nat} : dropR D [] = [] := rfl
theorem dropR_t {D : List Nat} {k : Nat} {y : AV} {r : Regs} (h : D.contains k = true) : dropR D ((k, y) :: r) = dropR D r := if_pos h
theorem dropR_f {D : List Nat} {k : Nat} {y : AV} {r : Regs} (h : D.contains k = false) : dropR D ((k, y) :: r) = (k, y) :: dropR D r := if_neg (by rw [h]; simp)
def panQ (Q : AE → St → Prop) (x : AV) (s : St) : Prop := Q (.pan x) s
section eqs
variable {P : Program} {e : Operand → AV} {H : List AO} {K : AV → List AO → Prop} {Q : AE → St → Prop} {r : Regs} {s : St} {l : List COper} {L : St → Prop} {Lp : AV → St → Prop}
theorem notSl_iff {s : AV} : (∀ t z' q, s ≠ .sl t z' q) ↔ notSl s = true := by
  cases s <;> simp [notSl]
def tidyK (g : Nat) (Q : AE → St → Prop) : AE → St → Prop := thenK (fun s' => ∃ s1, Sub g s' s1 ∧ Q .normal s1) Q
theorem aw_tidy {g : Nat} {b : CC} : aw P (.tidy g b) Q s = aw P b (tidyK g Q) s := rfl
theorem tidyK_exit {g id : Nat} : tidyK g Q (.exit id) s = Q (.exit id) s := rfl
theorem tidyK_pan {g : Nat} {x : AV} : tidyK g Q (.pan x) s = Q (.pan x) s := rfl
theorem tidyK_ret {g : Nat} : tidyK g Q .ret s = Q .ret s := rfl
theorem tidyK_of {g : Nat} (s1 : St) (h : Sub g s s1) (hq : Q .normal s1) : tidyK g Q .normal s := ⟨s1, h, hq⟩
theorem aw_cat {a b : CC} : aw P (.cat a b) Q s = aw P a (thenK (awK P b Q) Q) s := rfl
theorem aw_skip : aw P .skip Q s = Q .normal s := rfl
theorem aw_seq {a b : CC} : aw P (.seq a b) Q s = aw P a (thenK (awK P b Q) Q) s := rfl
theorem awK_eq {b : CC} : awK P b Q ⟨r, H⟩ = aw P b Q ⟨r, H⟩ := rfl
theorem aw_reg {ops : List COper} {d : Bool} {frz : List Nat} {keep : Option (List Nat)} : aw P (.reg ops d frz keep) Q s = opsK P d ops s (regEnd frz keep (Q .normal)) (panQ Q) := rfl
theorem aw_sch {ops : List COper} {dr frz : List Nat} {keep : Option (List Nat)} : aw P (.sch (.fin ops) dr frz keep) Q s = opsK P false ops s (regEnd frz keep (Q .normal)) (panQ0 dr Q) := rfl
def bothK (P : Program) (a b : OT) (L : St → Prop) (Lp : AV → St → Prop) (s : St) : Prop := otK P a s L Lp ∧ otK P b s L Lp
theorem aw_schp {ops : List COper} {x y : OT} {dr frz : List Nat} {keep : Option (List Nat)} : aw P (.sch (.pre ops x y) dr frz keep) Q s = opsK P false ops s (bothK P x y (regEnd frz keep (Q .normal)) (panQ0 dr Q)) (panQ0 dr Q) := rfl
theorem bothK_eq {x y : OT} : bothK P x y L Lp ⟨r, H⟩ = (otK P x ⟨r, H⟩ L Lp ∧ otK P y ⟨r, H⟩ L Lp) := rfl
theorem otK_fin {ops : List COper} : otK P (.fin ops) s L Lp = opsK P false ops s L Lp := rfl
theorem otK_pre {ops : List COper} {x y : OT} : otK P (.pre ops x y) s L Lp = opsK P false ops s (bothK P x y L Lp) Lp := rfl
theorem panQ0_eq {x : AV} {D : List Nat} : panQ0 D Q x ⟨r, H⟩ = Q (.pan x) ⟨dropR D r, H⟩ := rfl
theorem regEnd_nil {keep : List Nat} : regEnd [] (some keep) L ⟨r, H⟩ = bindS ⟨keep.map fun t => (t, r.get t), H⟩ L := rfl
theorem regEnd_frz {t : Nat} {ts : List Nat} {keep : List Nat} : regEnd (t :: ts) (some keep) L ⟨r, H⟩ = frzI ((t :: ts).flatMap fun t => (r.get t).ids) ⟨r, H⟩ (regEnd [] (some keep) L) := rfl
theorem aw_cond {c : Operand} {t f : CC} : aw P (.cond c t f) Q s = cK P t f Q s (Ab.ev s.r.get c) := rfl
theorem cK_t {t f : CC} : cK P t f Q s (.bool true) = aw P t Q s := rfl
theorem cK_f {t f : CC} : cK P t f Q s (.bool false) = aw P f Q s := rfl
theorem cK_split {t f : CC} {b : Bool} (h1 : b = true → aw P t Q s) (h2 : b = false → aw P f Q s) : cK P t f Q s (.bool b) := by
  cases b
  · exact h2 rfl
  · exact h1 rfl
theorem aw_block {keep : Option (List Nat)} {id : Nat} {b : CC} : aw P (.block keep id b) Q s = aw P b (blockK keep id Q) s := rfl
theorem aw_exit {id : Nat} : aw P (.exit id) Q s = Q (.exit id) s := rfl
theorem aw_ret : aw P .ret Q s = Q .ret s := rfl
theorem thenK_normal : thenK L Q .normal s = L s := rfl
theorem thenK_exit {id : Nat} : thenK L Q (.exit id) s = Q (.exit id) s := rfl
theorem thenK_pan {x : AV} : thenK L Q (.pan x) s = Q (.pan x) s := rfl
theorem thenK_ret : thenK L Q .ret s = Q .ret s := rfl
theorem blockK_normal {keep : List Nat} {id : Nat} : blockK (some keep) id Q .normal ⟨r, H⟩ = bindS ⟨keep.map fun t => (t, r.get t), H⟩ (Q .normal) := rfl
theorem blockK_exit {keep : List Nat} {id : Nat} : blockK (some keep) id Q (.exit id) ⟨r, H⟩ = bindS ⟨keep.map fun t => (t, r.get t), H⟩ (Q .normal) := by simp [blockK, keepK, bindS]
theorem blockK_exit' {keep : Option (List Nat)} {id i : Nat} (h : (i == id) = false) : blockK keep id Q (.exit i) s = Q (.exit i) s := by
  have : i ≠ id := by simpa using h
  simp [blockK, this]
theorem blockK_pan {keep : Option (List Nat)} {id : Nat} {x : AV} : blockK keep id Q (.pan x) s = Q (.pan x) s := rfl
theorem panQ_eq {x : AV} : panQ Q x s = Q (.pan x) s := rfl
theorem panR_eq {x : AV} : panR r Lp x H = Lp x ⟨r, H⟩ := rfl
theorem blockK_ret {keep : Option (List Nat)} {id : Nat} : blockK keep id Q .ret s = Q .ret s := rfl
theorem ops_nil {d : Bool} : opsK P d [] s L Lp = L s := rfl
theorem ops_f {t : Nat} {c : CO} : opsK P false (⟨some t, c, none⟩ :: l) ⟨r, H⟩ L Lp = opK P c (Ab.ev r.get) H (nxt P false t l r L Lp) (panR r Lp) := rfl
theorem ops_f0 {c : CO} : opsK P false (⟨none, c, none⟩ :: l) ⟨r, H⟩ L Lp = opK P c (Ab.ev r.get) H (nxt0 P false l r L Lp) (panR r Lp) := rfl
theorem ops_t {t : Nat} {c : CO} : opsK P true (⟨some t, c, none⟩ :: l) ⟨r, H⟩ L Lp = opD P c (Ab.ev r.get) H (nxt P true t l r L Lp) := rfl
theorem ops_t0 {c : CO} : opsK P true (⟨none, c, none⟩ :: l) ⟨r, H⟩ L Lp = opD P c (Ab.ev r.get) H (nxt0 P true l r L Lp) := rfl
theorem ops_fg {d : Bool} {t : Option Nat} {g : Nat} {w : Bool} {c : CO} : opsK P d (⟨t, c, some (g, w)⟩ :: l) ⟨r, H⟩ L Lp = gK P d t c w l r H L Lp (r.get g) := by
  cases d <;> rfl
theorem gK_tt {d : Bool} {t : Option Nat} {c : CO} : gK P d t c true l r H L Lp (.bool true) = opsK P d (⟨t, c, none⟩ :: l) ⟨r, H⟩ L Lp := by cases d <;> rfl
theorem gK_ff {d : Bool} {t : Option Nat} {c : CO} : gK P d t c false l r H L Lp (.bool false) = opsK P d (⟨t, c, none⟩ :: l) ⟨r, H⟩ L Lp := by cases d <;> rfl
theorem gK_tf {d : Bool} {t : Nat} {c : CO} : gK P d (some t) c true l r H L Lp (.bool false) = opsK P d l ⟨(t, .tup []) :: r, H⟩ L Lp := rfl
theorem gK_ft {d : Bool} {t : Nat} {c : CO} : gK P d (some t) c false l r H L Lp (.bool true) = opsK P d l ⟨(t, .tup []) :: r, H⟩ L Lp := rfl
theorem gK_u {d : Bool} {t : Nat} {w : Bool} {c : CO} : gK P d (some t) c w l r H L Lp (.tup []) = opsK P d l ⟨(t, .tup []) :: r, H⟩ L Lp := rfl
theorem nxt_int {d : Bool} {t : Nat} {k : IntKind} {n : Int} : nxt P d t l r L Lp (.int k n) H = opsK P d l ⟨(t, .int k n) :: r, H⟩ L Lp := rfl
theorem nxt_bool {d : Bool} {t : Nat} {b : Bool} : nxt P d t l r L Lp (.bool b) H = opsK P d l ⟨(t, .bool b) :: r, H⟩ L Lp := rfl
theorem nxt_str {d : Bool} {t : Nat} {b : List UInt8} : nxt P d t l r L Lp (.str b) H = opsK P d l ⟨(t, .str b) :: r, H⟩ L Lp := rfl
theorem nxt_nilp {d : Bool} {t : Nat} : nxt P d t l r L Lp .nilp H = opsK P d l ⟨(t, .nilp) :: r, H⟩ L Lp := rfl
theorem nxt_nils {d : Bool} {t : Nat} : nxt P d t l r L Lp .nils H = opsK P d l ⟨(t, .nils) :: r, H⟩ L Lp := rfl
theorem nxt_nilf {d : Bool} {t : Nat} : nxt P d t l r L Lp .nilf H = opsK P d l ⟨(t, .nilf) :: r, H⟩ L Lp := rfl
theorem nxt_nili {d : Bool} {t : Nat} : nxt P d t l r L Lp .nili H = opsK P d l ⟨(t, .nili) :: r, H⟩ L Lp := rfl
theorem nxt_nilm {d : Bool} {t : Nat} : nxt P d t l r L Lp .nilm H = opsK P d l ⟨(t, .nilm) :: r, H⟩ L Lp := rfl
theorem nxt_sl {d : Bool} {t : Nat} {a : Bool} {z : Nat} {q : List AV} : nxt P d t l r L Lp (.sl a z q) H = opsK P d l ⟨(t, .sl a z q) :: r, H⟩ L Lp := rfl
theorem nxt_own {d : Bool} {t a z o q : Nat} : nxt P d t l r L Lp (.own a z o q) H = opsK P d l ⟨(t, .own a z o q) :: r, H⟩ L Lp := rfl
theorem nxt_ref {d : Bool} {t a o q : Nat} : nxt P d t l r L Lp (.ref a o q) H = opsK P d l ⟨(t, .ref a o q) :: r, H⟩ L Lp := rfl
theorem nxt_ip {d : Bool} {t : Nat} {a : Bool} {q : List AV} : nxt P d t l r L Lp (.ip a q) H = opsK P d l ⟨(t, .ip a q) :: r, H⟩ L Lp := rfl
theorem nxt_agg {d : Bool} {t : Nat} {q : List AV} : nxt P d t l r L Lp (.agg q) H = opsK P d l ⟨(t, .agg q) :: r, H⟩ L Lp := rfl
theorem nxt_tup {d : Bool} {t : Nat} {q : List AV} : nxt P d t l r L Lp (.tup q) H = opsK P d l ⟨(t, .tup q) :: r, H⟩ L Lp := rfl
theorem nxt_fn {d : Bool} {t : Nat} {f : Fn} {a b : List AV} : nxt P d t l r L Lp (.fn f a b) H = opsK P d l ⟨(t, .fn f a b) :: r, H⟩ L Lp := rfl
theorem nxt_ifc {d : Bool} {t : Nat} {f : TypeId} {a : AV} : nxt P d t l r L Lp (.ifc f a) H = opsK P d l ⟨(t, .ifc f a) :: r, H⟩ L Lp := rfl
theorem nxt0_tup {d : Bool} {q : List AV} : nxt0 P d l r L Lp (.tup q) H = opsK P d l ⟨r, H⟩ L Lp := rfl
theorem nxt0_int {d : Bool} {k : IntKind} {n : Int} : nxt0 P d l r L Lp (.int k n) H = opsK P d l ⟨r, H⟩ L Lp := rfl
theorem get_here {t : Nat} {v : AV} : Regs.get ((t, v) :: r) t = v := by simp [Regs.get]
theorem get_there {t q : Nat} {v : AV} (h : (q == t) = false) : Regs.get ((q, v) :: r) t = r.get t := by
  have : q ≠ t := by simpa using h
  simp [Regs.get, this]
theorem ev_tmp {g : Nat → AV} {t : Nat} : Ab.ev g (.tmp t) = g t := rfl
theorem ev_int {g : Nat → AV} {k : IntKind} {n : Int} : Ab.ev g (.const (.int k n)) = .int k n := rfl
theorem ev_bool {g : Nat → AV} {b : Bool} : Ab.ev g (.const (.bool b)) = .bool b := rfl
theorem ev_str {g : Nat → AV} {b : ByteArray} : Ab.ev g (.const (.string b)) = .str b.data.toList := rfl
theorem ev_nils {g : Nat → AV} : Ab.ev g (.const (.slice none 0 0)) = .nils := rfl
theorem ev_nilp {g : Nat → AV} : Ab.ev g (.const (.pointer none)) = .nilp := rfl
theorem ev_nili {g : Nat → AV} : Ab.ev g (.const .nilIface) = .nili := rfl
theorem ev_nilf {g : Nat → AV} : Ab.ev g (.const .nilFunc) = .nilf := rfl
theorem ev_nilm {g : Nat → AV} : Ab.ev g (.const (.map none)) = .nilm := rfl
theorem ev_func {g : Nat → AV} {f : FuncId} : Ab.ev g (.func f) = .fn (.func f) [] [] := rfl
end eqs
end Go.Ab
namespace Go.Ab
open Go
set_option linter.unusedSimpArgs false
set_option linter.unusedVariables false
section eqs
variable {P : Program} {e : Operand → AV} {H : List AO} {K Kp : AV → List AO → Prop}
theorem opK_mv {x : Operand} : opK P (.mv x) e H K Kp = bindV (e x) fun y => K y H := rfl
theorem opD_mv {x : Operand} : opD P (.mv x) e H K = bindV (e x) fun y => K y H := propext ⟨fun h => h.2, fun h => ⟨rfl, h⟩⟩
theorem opK_pick {c a b : Operand} : opK P (.pick c a b) e H K Kp = pickK (e c) (e a) (e b) fun y => K y H := rfl
theorem opD_pick {c a b : Operand} : opD P (.pick c a b) e H K = pickK (e c) (e a) (e b) fun y => K y H := propext ⟨fun h => h.2, fun h => ⟨rfl, h⟩⟩
theorem opK_nilck {x : Operand} : opK P (.nilck x) e H K Kp = nilckK (e x) fun y => K y H := rfl
theorem opD_nilck {x : Operand} : opD P (.nilck x) e H K = nilckK (e x) fun y => K y H := propext ⟨fun h => h.2, fun h => ⟨rfl, h⟩⟩
theorem opK_bin {op : BinOp} {x y : Operand} : opK P (.bin op x y) e H K Kp = binK op (e x) (e y) fun y => K y H := rfl
theorem opD_bin {op : BinOp} {x y : Operand} : opD P (.bin op x y) e H K = binK op (e x) (e y) fun y => K y H := propext ⟨fun h => h.2, fun h => ⟨rfl, h⟩⟩
theorem opK_beq {neg : Bool} {x y : Operand} : opK P (.beq neg x y) e H K Kp = beqK neg (e x) (e y) fun y => K y H := rfl
theorem opD_beq {neg : Bool} {x y : Operand} : opD P (.beq neg x y) e H K = beqK neg (e x) (e y) fun y => K y H := propext ⟨fun h => h.2, fun h => ⟨rfl, h⟩⟩
theorem opK_seq {neg : Bool} {ks : List AV} {x y : Operand} : opK P (.seq neg ks x y) e H K Kp = seqK neg ks (e x) (e y) fun y => K y H := rfl
theorem opD_seq {neg : Bool} {ks : List AV} {x y : Operand} : opD P (.seq neg ks x y) e H K = seqK neg ks (e x) (e y) fun y => K y H := propext ⟨fun h => h.2, fun h => ⟨rfl, h⟩⟩
theorem opK_isn {k : Nat} {neg : Bool} {x y : Operand} : opK P (.isn k neg x y) e H K Kp = (nilV k (e y) = true ∧ nil1 k (e x) fun b => bindV (.bool (if neg then !b else b)) fun y => K y H) := rfl
theorem opD_isn {k : Nat} {neg : Bool} {x y : Operand} : opD P (.isn k neg x y) e H K = (det (.isn k neg x y) e = true ∧ (nilV k (e y) = true ∧ nil1 k (e x) fun b => bindV (.bool (if neg then !b else b)) fun y => K y H)) := rfl
theorem opK_un {op : UnOp} {x : Operand} : opK P (.un op x) e H K Kp = unK op (e x) fun y => K y H := rfl
theorem opD_un {op : UnOp} {x : Operand} : opD P (.un op x) e H K = unK op (e x) fun y => K y H := propext ⟨fun h => h.2, fun h => ⟨rfl, h⟩⟩
theorem opK_cvi {k : IntKind} {x : Operand} : opK P (.cvi k x) e H K Kp = cviK k (e x) fun y => K y H := rfl
theorem opD_cvi {k : IntKind} {x : Operand} : opD P (.cvi k x) e H K = cviK k (e x) fun y => K y H := propext ⟨fun h => h.2, fun h => ⟨rfl, h⟩⟩
theorem opK_cvs {x : Operand} : opK P (.cvs x) e H K Kp = cvsK (e x) fun y => K y H := rfl
theorem opD_cvs {x : Operand} : opD P (.cvs x) e H K = cvsK (e x) fun y => K y H := propext ⟨fun h => h.2, fun h => ⟨rfl, h⟩⟩
theorem opK_mki {t : TypeId} {x : Operand} : opK P (.mki t x) e H K Kp = bindV (.ifc t (e x)) fun y => K y H := rfl
theorem opD_mki {t : TypeId} {x : Operand} : opD P (.mki t x) e H K = bindV (.ifc t (e x)) fun y => K y H := propext ⟨fun h => h.2, fun h => ⟨rfl, h⟩⟩
theorem opK_mkf {fn : Fn} {first cap : List Operand} : opK P (.mkf fn first cap) e H K Kp = bindV (.fn fn (first.map e) (cap.map e)) fun y => K y H := rfl
theorem opD_mkf {fn : Fn} {first cap : List Operand} : opD P (.mkf fn first cap) e H K = bindV (.fn fn (first.map e) (cap.map e)) fun y => K y H := propext ⟨fun h => h.2, fun h => ⟨rfl, h⟩⟩
theorem opK_slc {z : Nat} {x : Operand} {lo hi : Option Operand} : opK P (.slc z x lo hi) e H K Kp = slK (e x) z (lo.map e) (hi.map e) fun y => bindV y fun y => K y H := rfl
theorem opD_slc {z : Nat} {x : Operand} {lo hi : Option Operand} : opD P (.slc z x lo hi) e H K = slK (e x) z (lo.map e) (hi.map e) fun y => bindV y fun y => K y H := propext ⟨fun h => h.2, fun h => ⟨rfl, h⟩⟩
theorem opK_sls {x : Operand} {lo hi : Option Operand} : opK P (.sls x lo hi) e H K Kp = slsK (e x) (lo.map e) (hi.map e) fun y => K y H := rfl
theorem opD_sls {x : Operand} {lo hi : Option Operand} : opD P (.sls x lo hi) e H K = slsK (e x) (lo.map e) (hi.map e) fun y => K y H := propext ⟨fun h => h.2, fun h => ⟨rfl, h⟩⟩
theorem opK_fad {off : Nat} {x : Operand} : opK P (.fad off x) e H K Kp = fadK off (e x) fun y => K y H := rfl
theorem opD_fad {off : Nat} {x : Operand} : opD P (.fad off x) e H K = fadK off (e x) fun y => K y H := propext ⟨fun h => h.2, fun h => ⟨rfl, h⟩⟩
theorem opK_fld {off n : Nat} {agg : Bool} {x : Operand} : opK P (.fld off n agg x) e H K Kp = fldK off n agg (e x) fun y => K y H := rfl
theorem opD_fld {off n : Nat} {agg : Bool} {x : Operand} : opD P (.fld off n agg x) e H K = fldK off n agg (e x) fun y => K y H := propext ⟨fun h => h.2, fun h => ⟨rfl, h⟩⟩
theorem opK_iad {z : Nat} {x i : Operand} : opK P (.iad z x i) e H K Kp = iadK z (e x) (e i) fun y => K y H := rfl
theorem opD_iad {z : Nat} {x i : Operand} : opD P (.iad z x i) e H K = iadK z (e x) (e i) fun y => K y H := propext ⟨fun h => h.2, fun h => ⟨rfl, h⟩⟩
theorem opK_iaa {len z : Nat} {x i : Operand} : opK P (.iaa len z x i) e H K Kp = iaaK len z (e x) (e i) fun y => K y H := rfl
theorem opD_iaa {len z : Nat} {x i : Operand} : opD P (.iaa len z x i) e H K = iaaK len z (e x) (e i) fun y => K y H := propext ⟨fun h => h.2, fun h => ⟨rfl, h⟩⟩
theorem opK_ixs {x i : Operand} : opK P (.ixs x i) e H K Kp = ixsK (e x) (e i) fun y => K y H := rfl
theorem opD_ixs {x i : Operand} : opD P (.ixs x i) e H K = ixsK (e x) (e i) fun y => K y H := propext ⟨fun h => h.2, fun h => ⟨rfl, h⟩⟩
theorem opK_ixa {len n : Nat} {agg : Bool} {x i : Operand} : opK P (.ixa len n agg x i) e H K Kp = ixaK len n agg (e x) (e i) fun y => K y H := rfl
theorem opD_ixa {len n : Nat} {agg : Bool} {x i : Operand} : opD P (.ixa len n agg x i) e H K = ixaK len n agg (e x) (e i) fun y => K y H := propext ⟨fun h => h.2, fun h => ⟨rfl, h⟩⟩
theorem opK_ext {i : Nat} {x : Operand} : opK P (.ext i x) e H K Kp = extK i (e x) fun y => K y H := rfl
theorem opD_ext {i : Nat} {x : Operand} : opD P (.ext i x) e H K = extK i (e x) fun y => K y H := propext ⟨fun h => h.2, fun h => ⟨rfl, h⟩⟩
theorem opK_lens {x : Operand} : opK P (.lens x) e H K Kp = lensK (e x) fun y => K y H := rfl
theorem opD_lens {x : Operand} : opD P (.lens x) e H K = lensK (e x) fun y => K y H := propext ⟨fun h => h.2, fun h => ⟨rfl, h⟩⟩
theorem opK_lenl {x : Operand} : opK P (.lenl x) e H K Kp = lenlK (e x) fun y => K y H := rfl
theorem opD_lenl {x : Operand} : opD P (.lenl x) e H K = lenlK (e x) fun y => K y H := propext ⟨fun h => h.2, fun h => ⟨rfl, h⟩⟩
theorem opK_capl {x : Operand} : opK P (.capl x) e H K Kp = caplK (e x) fun y => K y H := rfl
theorem opD_capl {x : Operand} : opD P (.capl x) e H K = caplK (e x) fun y => K y H := propext ⟨fun h => h.2, fun h => ⟨rfl, h⟩⟩
theorem opK_isi {neg : Bool} {x : Operand} : opK P (.isi neg x) e H K Kp = isiK neg (e x) fun y => K y H := rfl
theorem opK_tas {t : TypeId} {x : Operand} : opK P (.tas t x) e H K Kp = tasK t (e x) fun y => K y H := rfl
theorem opK_st0 {x v : Operand} : opK P (.st0 x v) e H K Kp = st0K (e x) (e v) H K := rfl
theorem opK_ldp {n : Nat} {agg : Bool} {x : Operand} : opK P (.ldp n agg x) e H K Kp = ldpK n agg (e x) fun y => K y H := rfl
theorem opK_mm {mx : Bool} {x : Operand} {xs : List Operand} : opK P (.mm mx x xs) e H K Kp = mmaK mx (e x) (xs.map e) fun y => K y H := rfl
theorem opD_mm {mx : Bool} {x : Operand} {xs : List Operand} : opD P (.mm mx x xs) e H K = mmaK mx (e x) (xs.map e) fun y => K y H := propext ⟨fun h => h.2, fun h => ⟨rfl, h⟩⟩
theorem opK_bld {zero : List AV} {ps : List (Nat × Nat × Operand)} : opK P (.bld zero ps) e H K Kp = bldK zero (ps.map fun p => (p.1, p.2.1, e p.2.2)) fun y => K y H := rfl
theorem opD_bld {zero : List AV} {ps : List (Nat × Nat × Operand)} : opD P (.bld zero ps) e H K = bldK zero (ps.map fun p => (p.1, p.2.1, e p.2.2)) fun y => K y H := propext ⟨fun h => h.2, fun h => ⟨rfl, h⟩⟩
theorem opK_ld {n : Nat} {agg : Bool} {x : Operand} : opK P (.ld n agg x) e H K Kp = ldK n agg H (e x) fun y => K y H := rfl
theorem opD_ld {n : Nat} {agg : Bool} {x : Operand} : opD P (.ld n agg x) e H K = ldK n agg H (e x) fun y => K y H := rfl
theorem opK_cbs {x : Operand} : opK P (.cbs x) e H K Kp = cbsK (rdS H 1 (e x)) fun y => K y H := rfl
theorem opD_cbs {x : Operand} : opD P (.cbs x) e H K = cbsK (rdS H 1 (e x)) fun y => K y H := rfl
theorem opK_bx {x : Operand} : opK P (.bx x) e H K Kp = bxK (e x) H K := rfl
theorem opD_bx {x : Operand} : opD P (.bx x) e H K = bxK (e x) H K := rfl
theorem opK_al {zero : List AV} : opK P (.al zero) e H K Kp = (zero.all AV.one = true ∧ bindH (.ref H.length 0 0) (H ++ [.box zero]) K) := rfl
theorem opD_al {zero : List AV} : opD P (.al zero) e H K = (zero.all AV.one = true ∧ bindH (.ref H.length 0 0) (H ++ [.box zero]) K) := rfl
theorem opK_st {n : Nat} {x v : Operand} : opK P (.st n x v) e H K Kp = stK n (e x) (e v) H K := rfl
theorem opD_st {n : Nat} {x v : Operand} : opD P (.st n x v) e H K = stK n (e x) (e v) H K := rfl
theorem opK_bls {z len : Nat} {zero : AV} {ps : List (Nat × Operand)} : opK P (.bls z len zero ps) e H K Kp = blsK z len zero (ps.map fun p => (p.1, e p.2)) H K := by simp only [opK, CO.cls, writeK, blsK, List.all_map, Function.comp_def]; rfl
theorem opD_bls {z len : Nat} {zero : AV} {ps : List (Nat × Operand)} : opD P (.bls z len zero ps) e H K = blsK z len zero (ps.map fun p => (p.1, e p.2)) H K := by simp only [opD, CO.cls, writeK, blsK, List.all_map, Function.comp_def]; rfl
theorem opK_mks {z b : Nat} {zero : AV} {x c : Operand} : opK P (.mks z b zero x c) e H K Kp = mksK z b zero (e x) (e c) H K := rfl
theorem opD_mks {z b : Nat} {zero : AV} {x c : Operand} : opD P (.mks z b zero x c) e H K = mksK z b zero (e x) (e c) H K := rfl
theorem opK_app {z b : Nat} {s x : Operand} : opK P (.app z b s x) e H K Kp = appK z b (e s) (e x) (rdS H z (e s)) (rdS H z (e x)) H K := by simp only [opK, opK0, CO.cls, writeK, appK, notSl_iff]; rfl
theorem opD_app {z b : Nat} {s x : Operand} : opD P (.app z b s x) e H K = appK z b (e s) (e x) (rdS H z (e s)) (rdS H z (e x)) H K := by simp only [opD, CO.cls, writeK, appK, notSl_iff]; rfl
theorem opK_apz {z b : Nat} {zero : AV} {s x : Operand} : opK P (.apz z b zero s x) e H K Kp = apzK z b zero (e s) (e x) (rdS H z (e s)) H K := by simp only [opK, opK0, CO.cls, writeK, apzK, notSl_iff]; rfl
theorem opD_apz {z b : Nat} {zero : AV} {s x : Operand} : opD P (.apz z b zero s x) e H K = apzK z b zero (e s) (e x) (rdS H z (e s)) H K := by simp only [opD, CO.cls, writeK, apzK, notSl_iff]; rfl
theorem opK_aps {b : Nat} {s x : Operand} : opK P (.aps b s x) e H K Kp = apsK b (e s) (e x) (rdS H 1 (e s)) H K := by simp only [opK, opK0, CO.cls, writeK, apsK, notSl_iff]; rfl
theorem opD_aps {b : Nat} {s x : Operand} : opD P (.aps b s x) e H K = apsK b (e s) (e x) (rdS H 1 (e s)) H K := by simp only [opD, CO.cls, writeK, apsK, notSl_iff]; rfl
theorem opK_cvb {x : Operand} : opK P (.cvb x) e H K Kp = cvbK (e x) H K := rfl
theorem opD_cvb {x : Operand} : opD P (.cvb x) e H K = cvbK (e x) H K := rfl
theorem opK_csb {x : Operand} : opK P (.csb x) e H K Kp = csbK (e x) H K := rfl
theorem opD_csb {x : Operand} : opD P (.csb x) e H K = csbK (e x) H K := rfl
theorem opK_call {f : FuncId} {args : List Operand} : opK P (.call f args) e H K Kp = acK P f (args.map e) H K Kp := rfl
theorem opK_pan {x : Operand} : opK P (.pan x) e H K Kp = panK (e x) H Kp := rfl
theorem opK_calv {x : Operand} {args : List Operand} : opK P (.calv x args) e H K Kp = calvK P (e x) (args.map e) H K Kp := by
  show callF e (.calv x args) (fun f args => ACallP P f args H K Kp) = _
  simp only [callF, calvK]
  cases e x with
  | fn f a b => cases f <;> rfl
  | _ => rfl
theorem opD_calv {x : Operand} {args : List Operand} : opD P (.calv x args) e H K = calvD P (e x) (args.map e) H K := by
  show callF e (.calv x args) (fun f args => ∃ y, FCall P f args H y ∧ K y H) = _
  simp only [callF, calvD]
  cases e x with
  | fn f a b => cases f <;> rfl
  | _ => rfl
theorem opD_call {f : FuncId} {args : List Operand} : opD P (.call f args) e H K = fcK P f (args.map e) H K := rfl
end eqs
end Go.Ab
namespace Go.Ab
open Go
set_option linter.unusedSimpArgs false
set_option linter.unusedVariables false
theorem iad_map {α : Type} [Inhabited α] {f : α → AV} {l : List α} {t : Bool} {z z' : Nat} {k : IntKind} {j : Int} {K : AV → Prop} :
    iadK z (.sl t z' (l.map f)) (.int k j) K = (z' = z ∧ 0 ≤ j ∧ j < l.length ∧ bindV (.ip t (f (l.getD j.toNat default)).cells) K) := by
  simp only [iadK, List.length_map]
  apply propext
  constructor <;> rintro ⟨h1, h2, h3, h4⟩ <;> refine ⟨h1, h2, h3, ?_⟩ <;>
    (have h5 : j.toNat < l.length := by omega
     simpa [List.getD_eq_getElem?_getD, List.getElem?_map, List.getElem?_eq_getElem h5] using h4)
theorem ldo_map {α : Type} [Inhabited α] {f : α → AV} {l : List α} {n : Nat} {agg : Bool} {i off z : Nat} {K : AV → Prop} :
    ldoK n agg i off (some (.arr z (l.map f))) K = (i < l.length ∧ off + n ≤ z ∧ (agg = true ∨ n = 1) ∧ bindV (partOf (f (l.getD i default)).cells off n agg) K) := by
  simp only [ldoK, List.length_map]
  apply propext
  constructor <;> rintro ⟨h1, h2, h3, h4⟩ <;> refine ⟨h1, h2, h3, ?_⟩ <;>
    simpa [List.getD_eq_getElem?_getD, List.getElem?_map, List.getElem?_eq_getElem h1] using h4
theorem iad_own {id z z' off len : Nat} {k : IntKind} {j : Int} {K : AV → Prop} : iadK z (.own id z' off len) (.int k j) K = (z' = z ∧ 0 ≤ j ∧ j < len ∧ bindV (.ref id (off + j.toNat) 0) K) := rfl
theorem ldo_box {n : Nat} {agg : Bool} {i off : Nat} {cs : List AV} {K : AV → Prop} : ldoK n agg i off (some (.box cs)) K = (i = 0 ∧ off + n ≤ cs.length ∧ (agg = true ∨ n = 1) ∧ bindV (partOf cs off n agg) K) := rfl
theorem part_one {x : AV} : partOf [x] 0 1 false = x := rfl
def U8 (x : UInt8) : AV := .int .u8 (x.toNat : Int)
theorem U8_cells {x : UInt8} : (U8 x).cells = [.int .u8 (x.toNat : Int)] := rfl
section cells
variable {k : IntKind} {n : Int} {b : Bool} {s : List UInt8} {t : Bool} {z : Nat} {l : List AV}
theorem cells_int : (AV.int k n).cells = [.int k n] := rfl
theorem cells_bool : (AV.bool b).cells = [.bool b] := rfl
theorem cells_str : (AV.str s).cells = [.str s] := rfl
theorem cells_sl : (AV.sl t z l).cells = [.sl t z l] := rfl
theorem cells_nils : AV.nils.cells = [.nils] := rfl
theorem cells_nilp : AV.nilp.cells = [.nilp] := rfl
theorem cells_nilf : AV.nilf.cells = [.nilf] := rfl
theorem cells_nili : AV.nili.cells = [.nili] := rfl
theorem cells_agg : (AV.agg l).cells = l := rfl
theorem cells_own {id o q : Nat} : (AV.own id z o q).cells = [.own id z o q] := rfl
theorem cells_ref {id o q : Nat} : (AV.ref id o q).cells = [.ref id o q] := rfl
theorem cells_fn {f : Fn} {a c : List AV} : (AV.fn f a c).cells = [.fn f a c] := rfl
theorem cells_ifc {u : TypeId} {x : AV} : (AV.ifc u x).cells = [.ifc u x] := rfl
theorem ok_int : (AV.int k n).ok = true := rfl
theorem ok_bool : (AV.bool b).ok = true := rfl
theorem ok_str : (AV.str s).ok = true := rfl
theorem ok_sl : (AV.sl t z l).ok = !t := rfl
theorem ok_nils : AV.nils.ok = true := rfl
theorem ok_nilp : AV.nilp.ok = true := rfl
theorem ok_nilf : AV.nilf.ok = true := rfl
theorem ok_nili : AV.nili.ok = true := rfl
theorem one_int : (AV.int k n).one = true := rfl
theorem one_bool : (AV.bool b).one = true := rfl
theorem one_str : (AV.str s).one = true := rfl
theorem one_sl : (AV.sl t z l).one = true := rfl
theorem one_nils : AV.nils.one = true := rfl
theorem one_nilp : AV.nilp.one = true := rfl
theorem one_nilf : AV.nilf.one = true := rfl
theorem one_nili : AV.nili.one = true := rfl
theorem one_own {id o q : Nat} : (AV.own id z o q).one = true := rfl
theorem one_ref {id o q : Nat} : (AV.ref id o q).one = true := rfl
theorem one_fn {f : Fn} {a c : List AV} : (AV.fn f a c).one = true := rfl
theorem one_ifc {u : TypeId} {x : AV} : (AV.ifc u x).one = true := rfl
end cells
def I64 (n : Int) : AV := .int .i64 n
theorem I64_cells {n : Int} : (I64 n).cells = [.int .i64 n] := rfl
def SB (l : List UInt8) : AV := .sl false 1 (l.map U8)
theorem SB_cells {l : List UInt8} : (SB l).cells = [.sl false 1 (l.map U8)] := rfl
def STR (l : List UInt8) : AV := .str l
theorem STR_cells {l : List UInt8} : (STR l).cells = [.str l] := rfl
def SI (l : List Int) : AV := .sl false 1 (l.map I64)
theorem SI_cells {l : List Int} : (SI l).cells = [.sl false 1 (l.map I64)] := rfl
section nils
variable {K : Bool → Prop} {t : Bool} {z id o q : Nat} {l : List AV}
theorem nil_sl : nil1 1 (.sl t z l) K = ((l = [] → K true) ∧ K false) := rfl
theorem nil_own : nil1 1 (.own id z o q) K = ((q = 0 → K true) ∧ K false) := rfl
theorem nil_nils : nil1 1 .nils K = K true := rfl
theorem nil_nilp : nil1 0 .nilp K = K true := rfl
theorem nil_ref : nil1 0 (.ref id o q) K = K false := rfl
theorem nil_ip : nil1 0 (.ip t l) K = K false := rfl
theorem nil_nilm : nil1 2 .nilm K = K true := rfl
theorem nil_mp : nil1 2 (.mp id) K = K false := rfl
theorem nil_nilf : nil1 3 .nilf K = K true := rfl
theorem nil_fn {f : Fn} {a c : List AV} : nil1 3 (.fn f a c) K = K false := rfl
theorem nilV0 : nilV 0 .nilp = true := rfl
theorem nilV1 : nilV 1 .nils = true := rfl
theorem nilV2 : nilV 2 .nilm = true := rfl
theorem nilV3 : nilV 3 .nilf = true := rfl
end nils
theorem bytesOf_map : ∀ l : List UInt8, bytesOf (l.map U8) = some l
  | [] => rfl
  | a :: l => by
    have this : UInt8.ofNat (a.toNat : Int).toNat = a := by simp
    show (match bytesOf (l.map U8) with
      | some s => some (UInt8.ofNat ((a.toNat : Int)).toNat :: s)
      | none => none) = some (a :: l)
    rw [bytesOf_map l, this]
theorem cbs_map {l : List UInt8} {K : AV → Prop} : cbsK (some (l.map U8)) K = K (.str l) := by
  simp only [cbsK, bytesOf_map, Option.some.injEq, exists_eq_left']
theorem un_not {b : Bool} {K : AV → Prop} : unK .not (.bool b) K = K (.bool (!b)) := rfl
theorem un_neg {k : IntKind} {a : Int} {K : AV → Prop} : unK .neg (.int k a) K = K (.int k (k.wrap (0 - a))) := rfl
theorem cbs_nil {K : AV → Prop} : cbsK (some []) K = K (.str []) := by simp only [cbsK, bytesOf, Option.some.injEq, exists_eq_left']
theorem elemUpd_one {a x : AV} (h : x.one = true) (ha : a.one = true) : elemUpd a 0 1 [x] = x := by
  cases a <;> simp [AV.one] at ha <;> simp [elemUpd, AV.cells]
theorem upd_u8 {l : List UInt8} {i : Nat} {x : UInt8} : (l.map U8).set i (elemUpd ((l.map U8).getD i .top) 0 1 [.int .u8 (x.toNat : Int)]) = (l.set i x).map U8 := by
  rw [List.map_set]
  by_cases h : i < l.length
  · congr 1
    rw [List.getD_eq_getElem?_getD, List.getElem?_map, List.getElem?_eq_getElem h]
    exact elemUpd_one rfl rfl
  · rw [List.set_eq_of_length_le (by simp; omega), List.set_eq_of_length_le (by simp; omega)]
theorem upd_u8b {l : List UInt8} {i : Nat} {c : BitVec 8} : (l.map U8).set i (elemUpd ((l.map U8).getD i .top) 0 1 [.int .u8 (c.toNat : Int)]) = (l.set i ⟨c⟩).map U8 := upd_u8 (x := ⟨c⟩)
theorem upd_i64 {l : List Int} {i : Nat} {n : Int} : (l.map I64).set i (elemUpd ((l.map I64).getD i .top) 0 1 [.int .i64 n]) = (l.set i n).map I64 := by
  rw [List.map_set]
  by_cases h : i < l.length
  · congr 1
    rw [List.getD_eq_getElem?_getD, List.getElem?_map, List.getElem?_eq_getElem h]
    exact elemUpd_one rfl rfl
  · rw [List.set_eq_of_length_le (by simp; omega), List.set_eq_of_length_le (by simp; omega)]
section decs
variable {a b : Int}
theorem dlt_t (h : a < b) : decide (a < b) = true := decide_eq_true h
theorem dlt_f (h : ¬ a < b) : decide (a < b) = false := decide_eq_false h
theorem dle_t (h : a ≤ b) : decide (a ≤ b) = true := decide_eq_true h
theorem dle_f (h : ¬ a ≤ b) : decide (a ≤ b) = false := decide_eq_false h
theorem dgt_t (h : a > b) : decide (a > b) = true := decide_eq_true h
theorem dgt_f (h : ¬ a > b) : decide (a > b) = false := decide_eq_false h
theorem dge_t (h : a ≥ b) : decide (a ≥ b) = true := decide_eq_true h
theorem dge_f (h : ¬ a ≥ b) : decide (a ≥ b) = false := decide_eq_false h
theorem deq_t (h : a = b) : (a == b) = true := beq_iff_eq.2 h
theorem deq_f (h : ¬ a = b) : (a == b) = false := beq_eq_false_iff_ne.2 h
theorem dne_t (h : ¬ a = b) : (a != b) = true := bne_iff_ne.2 h
theorem dne_f (h : a = b) : (a != b) = false := by simp [h]
end decs
theorem ik_shr_i64 {a b : Int} {K : AV → Prop} : ik .shr .i64 a b K = (0 ≤ b ∧ K (.int .i64 (a.fdiv (2 ^ (min b.toNat 64))))) := rfl
theorem ik_shl_i64 {a b : Int} {K : AV → Prop} : ik .shl .i64 a b K = (0 ≤ b ∧ K (.int .i64 (IntKind.i64.wrap (a * 2 ^ (min b.toNat 64))))) := rfl
theorem iad_cons {a : AV} {l : List AV} {t : Bool} {z z' : Nat} {k : IntKind} {j : Int} {K : AV → Prop} : iadK z (.sl t z' (a :: l)) (.int k j) K = (z' = z ∧ 0 ≤ j ∧ j < (a :: l).length ∧ bindV (.ip t ((a :: l).getD j.toNat .top).cells) K) := rfl
end Go.Ab
namespace Go.Ab
open Go
set_option linter.unusedSimpArgs false
set_option linter.unusedVariables false
set_option linter.defProp false
def cpyO (id z off len : Nat) (m : List AV) (o : Option AO) (H : List AO) (K : AV → List AO → Prop) : Prop :=
  match o with
  | some (.arr z'' l) => z'' = z ∧ off + len ≤ l.length ∧ bindH (.int .i64 ((min m.length len : Nat) : Int)) (H.set id (.arr z (l.take off ++ m.take len ++ l.drop (off + min m.length len)))) K
  | _ => False
def cpyK (z : Nat) (d : AV) (m : Option (List AV)) (H : List AO) (K : AV → List AO → Prop) : Prop :=
  match d, m with
  | .own id z' off len, some m => z' = z ∧ cpyO id z off len m H[id]? H K
  | .nils, some m => bindH (.int .i64 0) H K
  | _, _ => False
def clrO (id z off len : Nat) (zero : AV) (o : Option AO) (H : List AO) (K : AV → List AO → Prop) : Prop :=
  match o with
  | some (.arr z'' l) => (z'' = z ∧ off + len ≤ l.length) ∧ bindH (.tup []) (H.set id (.arr z (l.take off ++ List.replicate len zero ++ l.drop (off + len)))) K
  | _ => False
def clrK (z : Nat) (zero x : AV) (H : List AO) (K : AV → List AO → Prop) : Prop :=
  match x with
  | .own id z' off len => (z' = z ∧ zero.el z = true) ∧ clrO id z off len zero H[id]? H K
  | _ => False
def s30K (z : Nat) (l : Option (List AV)) (H : List AO) (K : AV → List AO → Prop) : Prop :=
  match l with
  | some _ => bindH (.own H.length z 0 0) (H ++ [.arr z []]) K
  | none => False
def s3K (l : Option (List AV)) (lo hi mx : Option AV) (K : AV → Prop) : Prop :=
  match l with
  | some l => bndK mx l.length fun m => m ≤ l.length ∧ bndK hi l.length fun h => h ≤ m ∧ bndK lo 0 fun lw => lw ≤ h ∧ bindV .top K
  | none => False
def cap4O (id z off len : Nat) (o : Option AO) (H : List AO) (K : AV → List AO → Prop) : Prop :=
  match o with
  | some (.arr z' l) => (z' = z ∧ 0 < z ∧ off + len ≤ l.length) ∧ ∀ c : Nat, len ≤ c → bindH (.int .i64 c) (H.set id (.arr z (l ++ List.replicate (off + c - l.length) (anyEl z)))) K
  | _ => False
def cap4K (x : AV) (H : List AO) (K : AV → List AO → Prop) : Prop :=
  match x with
  | .own id z off len => cap4O id z off len H[id]? H K
  | .nils => bindH (.int .i64 0) H K
  | _ => False
def sle4O (id z off len : Nat) (lo hi : Option AV) (o : Option AO) (K : AV → Prop) : Prop :=
  match o with
  | some (.arr z' l) => (z' = z ∧ 0 < z) ∧ bndK hi len fun h => off + h ≤ l.length ∧ bndK lo 0 fun lw => lw ≤ h ∧ bindV (.own id z (off + lw) (h - lw)) K
  | _ => False
def sle4K (z : Nat) (x : AV) (lo hi : Option AV) (H : List AO) (K : AV → Prop) : Prop :=
  match x with
  | .own id z' off len => z' = z ∧ sle4O id z off len lo hi H[id]? K
  | _ => False
def apinO (id z off len : Nat) (m : List AV) (o : Option AO) (H : List AO) (K : AV → List AO → Prop) : Prop :=
  match o with
  | some (.arr z'' l) => (z'' = z ∧ 0 < z ∧ off + len + m.length ≤ l.length) ∧ bindH (.own id z off (len + m.length)) (H.set id (.arr z (l.take (off + len) ++ m ++ l.drop (off + len + m.length)))) K
  | _ => False
def apinK (z : Nat) (s : AV) (m : Option (List AV)) (H : List AO) (K : AV → List AO → Prop) : Prop :=
  match s, m with
  | .own id z' off len, some m => z' = z ∧ apinO id z off len m H[id]? H K
  | _, _ => False
def mvx4O (id z off len : Nat) (o : Option AO) (H : List AO) (K : AV → List AO → Prop) : Prop :=
  match o with
  | some (.arr z' l) => (z' = z ∧ 0 < z ∧ off + len ≤ l.length) ∧ ∀ c : Nat, len ≤ c → l.length ≤ off + c → bindH (.ownx id z off len c) (H.set id (.arr z (l ++ List.replicate (off + c - l.length) (anyEl z)))) K
  | _ => False
def mvx4K (x : AV) (H : List AO) (K : AV → List AO → Prop) : Prop :=
  match x with
  | .own id z off len => mvx4O id z off len H[id]? H K
  | .nils => bindH .nils H K
  | _ => False
def agz4O (z bytes id off len : Nat) (n : Int) (zero : AV) (o : Option AO) (H : List AO) (K : AV → List AO → Prop) : Prop :=
  match o with
  | some (.arr z3 l) => (z3 = z ∧ 0 < z ∧ off + len ≤ l.length) ∧ ((len + n.toNat) * bytes ≤ 2 ^ 47 ∧ len + n.toNat < 2 ^ 63) ∧ bindH (.own H.length z 0 (len + n.toNat)) (H ++ [.arr z ((l.drop off).take len ++ List.replicate n.toNat zero)]) K
  | _ => False
def agz4K (z bytes : Nat) (zero s x g : AV) (H : List AO) (K : AV → List AO → Prop) : Prop :=
  match s, x, g with
  | .own id z1 off len, .int _ n, .ownx id2 z2 off2 _ c => (z1 = z ∧ z2 = z ∧ id2 = id ∧ zero.el z = true) ∧ (0 < n ∧ off2 + c < off + len + n.toNat) ∧ agz4O z bytes id off len n zero H[id]? H K
  | _, _, _ => False
def xcK (P : Program) (f : FuncId) (args : List AV) (H : List AO) (K : AV → List AO → Prop) : Prop := XCall P f args H K
def lkV (ok : Bool) (v : AV) (b : Bool) (K : AV → Prop) : Prop :=
  match ok with
  | true => bindV (.tup [v, .bool b]) K
  | false => bindV v K
def lkpF (ok : Bool) (zero : AV) (o : Option (Option (Nat × AV))) (K : AV → Prop) : Prop :=
  match o with
  | some (some q) => lkV ok q.2 true K
  | some none => lkV ok zero false K
  | none => False
def lkpO (k : AV) (ok : Bool) (zero : AV) (o : Option AO) (K : AV → Prop) : Prop :=
  match o with
  | some (.mapo es) => lkpF ok zero (findM k es) K
  | _ => False
def lkpK (ks ok : Bool) (zero m k : AV) (H : List AO) (K : AV → Prop) : Prop :=
  match m with
  | .nilm => keyOk ks k = true ∧ lkV ok zero false K
  | .mp id => keyOk ks k = true ∧ lkpO k ok zero H[id]? K
  | _ => False
def lenmO (o : Option AO) (K : AV → Prop) : Prop :=
  match o with
  | some (.mapo es) => bindV (.int .i64 es.length) K
  | _ => False
def lenmK (m : AV) (H : List AO) (K : AV → Prop) : Prop :=
  match m with
  | .nilm => bindV (.int .i64 0) K
  | .mp id => lenmO H[id]? K
  | _ => False
def menF (id : Nat) (k zero : AV) (es : List (AV × AV)) (o : Option (Option (Nat × AV))) (H : List AO) (K : AV → List AO → Prop) : Prop :=
  match o with
  | some (some q) => bindH (.tup [q.2, .int .i64 q.1]) H K
  | some none => bindH (.tup [zero, .int .i64 es.length]) (H.set id (.mapo (es ++ [(k, zero)]))) K
  | none => False
def menO (id : Nat) (k zero : AV) (o : Option AO) (H : List AO) (K : AV → List AO → Prop) : Prop :=
  match o with
  | some (.mapo es) => menF id k zero es (findM k es) H K
  | _ => False
def menK (ks : Bool) (zero m k : AV) (H : List AO) (K : AV → List AO → Prop) : Prop :=
  match m with
  | .mp id => keyOk ks k = true ∧ menO id k zero H[id]? H K
  | _ => False
def updF (id : Nat) (k v : AV) (es : List (AV × AV)) (o : Option (Option (Nat × AV))) (H : List AO) (K : AV → List AO → Prop) : Prop :=
  match o with
  | some (some q) => bindH (.tup []) (H.set id (.mapo (es.set q.1 ((es.getD q.1 (.top, .top)).1, v)))) K
  | some none => bindH (.tup []) (H.set id (.mapo (es ++ [(k, v)]))) K
  | none => False
def updO (id : Nat) (k v : AV) (o : Option AO) (H : List AO) (K : AV → List AO → Prop) : Prop :=
  match o with
  | some (.mapo es) => updF id k v es (findM k es) H K
  | _ => False
def updK (ks : Bool) (m k v : AV) (H : List AO) (K : AV → List AO → Prop) : Prop :=
  match m with
  | .mp id => keyOk ks k = true ∧ updO id k v H[id]? H K
  | _ => False
def estO (id : Nat) (i : Int) (v : AV) (o : Option AO) (H : List AO) (K : AV → List AO → Prop) : Prop :=
  match o with
  | some (.mapo es) => (0 ≤ i ∧ i.toNat < es.length) ∧ bindH (.tup []) (H.set id (.mapo (es.set i.toNat ((es.getD i.toNat (.top, .top)).1, v)))) K
  | _ => False
def estK (m s v : AV) (H : List AO) (K : AV → List AO → Prop) : Prop :=
  match m, s with
  | .mp id, .int .i64 i => estO id i v H[id]? H K
  | _, _ => False
def rngK (x : AV) (H : List AO) (K : AV → List AO → Prop) : Prop :=
  match x with
  | .str s => bindH (.it H.length) (H ++ [.siter s 0]) K
  | _ => False
def nxtC (c : Prop) (f : Bool → Prop) : Prop := (c → f true) ∧ (¬ c → f false)
theorem nxtC_t {c : Prop} {f : Bool → Prop} (h : c) (hf : f true) : nxtC c f := ⟨fun _ => hf, fun hn => absurd h hn⟩
theorem nxtC_f {c : Prop} {f : Bool → Prop} (h : ¬ c) (hf : f false) : nxtC c f := ⟨fun hn => absurd hn h, fun _ => hf⟩
def nxtR (id : Nat) (s : List UInt8) (p : Nat) (H : List AO) (K : AV → List AO → Prop) (b : Bool) : Prop :=
  match b with
  | true => bindH (.tup [.bool true, .int .i64 p, .int .i32 (decL s p).1]) (H.set id (.siter s (p + (decL s p).2))) K
  | false => bindH (.tup [.bool false]) H K
def nxtO (id : Nat) (o : Option AO) (H : List AO) (K : AV → List AO → Prop) : Prop :=
  match o with
  | some (.siter s p) => nxtC (p < s.length) (nxtR id s p H K)
  | _ => False
def nxtK (x : AV) (H : List AO) (K : AV → List AO → Prop) : Prop :=
  match x with
  | .it id => nxtO id H[id]? H K
  | _ => False
section eqs
variable {P : Program} {e : Operand → AV} {H : List AO} {K Kp : AV → List AO → Prop}
theorem opK_cpy {z : Nat} {d s : Operand} : opK P (.cpy z d s) e H K Kp = cpyK z (e d) (rdS H z (e s)) H K := by
  show writeK (.cpy z d s) e H K = _
  simp only [writeK, cpyK]
  generalize e d = x
  generalize rdS H z (e s) = m
  cases x <;> cases m <;> rfl
theorem opD_cpy {z : Nat} {d s : Operand} : opD P (.cpy z d s) e H K = cpyK z (e d) (rdS H z (e s)) H K := by
  show writeK (.cpy z d s) e H K = _
  simp only [writeK, cpyK]
  generalize e d = x
  generalize rdS H z (e s) = m
  cases x <;> cases m <;> rfl
theorem opK_apin {z b : Nat} {s x : Operand} : opK P (.apin z b s x) e H K Kp = apinK z (e s) (rdS H z (e x)) H K := by
  show writeK (.apin z b s x) e H K = _
  simp only [writeK, apinK]
  generalize e s = x
  generalize rdS H z _ = m
  cases x <;> cases m <;> rfl
theorem opD_apin {z b : Nat} {s x : Operand} : opD P (.apin z b s x) e H K = apinK z (e s) (rdS H z (e x)) H K := by
  show writeK (.apin z b s x) e H K = _
  simp only [writeK, apinK]
  generalize e s = x
  generalize rdS H z _ = m
  cases x <;> cases m <;> rfl
theorem opK_mvx {x : Operand} : opK P (.mvx x) e H K Kp = mvx4K (e x) H K := rfl
theorem opK_agz {z b : Nat} {zero : AV} {s x g : Operand} : opK P (.agz z b zero s x g) e H K Kp = agz4K z b zero (e s) (e x) (e g) H K := by
  show agzK z b zero (e s) (e x) (e g) H K = _
  unfold agzK agz4K
  generalize e s = s1
  generalize e x = x1
  generalize e g = g1
  cases s1 <;> cases x1 <;> cases g1 <;> rfl
theorem opK_clr {z : Nat} {zero : AV} {x : Operand} : opK P (.clr z zero x) e H K Kp = clrK z zero (e x) H K := rfl
theorem opK_s30 {z : Nat} {x : Operand} : opK P (.s30 z x) e H K Kp = s30K z (rdS H z (e x)) H K := rfl
theorem opK_s3 {z : Nat} {x mx : Operand} {lo hi : Option Operand} : opK P (.s3 z x lo hi mx) e H K Kp = s3K (rdS H z (e x)) (lo.map e) (hi.map e) (some (e mx)) fun y => K y H := rfl
theorem opK_cape {x : Operand} : opK P (.cape x) e H K Kp = cap4K (e x) H K := rfl
theorem opK_sle {z : Nat} {x : Operand} {lo hi : Option Operand} : opK P (.sle z x lo hi) e H K Kp = sle4K z (e x) (lo.map e) (hi.map e) H fun y => K y H := rfl
theorem opK_xcl {f : FuncId} {args : List Operand} : opK P (.xcl f args) e H K Kp = xcK P f (args.map e) H K := rfl
theorem lkp_eq {ks ok : Bool} {z : AV} {m k : Operand} {K : AV → Prop} : readK (.lkp ks ok z m k) e H K = lkpK ks ok z (e m) (e k) H K := by
  simp only [readK, lkpK]
  generalize e m = x
  cases x <;> simp only [and_false]
  case nilm => cases ok <;> rfl
  case mp id =>
    unfold lkpO
    generalize H[id]? = q
    rcases q with _ | o
    · simp
    · cases o <;> simp only [and_false]
      unfold lkpF
      generalize findM (e k) _ = r
      rcases r with _ | _ | q <;> cases ok <;> simp [lkV, bindV]
theorem men_eq {ks : Bool} {z : AV} {m k : Operand} {K : AV → List AO → Prop} : writeK (.men ks z m k) e H K = menK ks z (e m) (e k) H K := by
  simp only [writeK, menK]
  generalize e m = x
  cases x <;> simp only [and_false]
  case mp id =>
    unfold menO
    generalize H[id]? = q
    rcases q with _ | o
    · simp
    · cases o <;> simp only [and_false]
      unfold menF
      generalize findM (e k) _ = r
      rcases r with _ | _ | q <;> rfl
theorem upd_eq {ks : Bool} {m k v : Operand} {K : AV → List AO → Prop} : writeK (.upd ks m k v) e H K = updK ks (e m) (e k) (e v) H K := by
  simp only [writeK, updK]
  generalize e m = x
  cases x <;> simp only [and_false]
  case mp id =>
    unfold updO
    generalize H[id]? = q
    rcases q with _ | o
    · simp
    · cases o <;> simp only [and_false]
      unfold updF
      generalize findM (e k) _ = r
      rcases r with _ | _ | q <;> rfl
theorem opK_upd {ks : Bool} {m k v : Operand} : opK P (.upd ks m k v) e H K Kp = updK ks (e m) (e k) (e v) H K := upd_eq (K := K)
theorem opD_upd {ks : Bool} {m k v : Operand} : opD P (.upd ks m k v) e H K = updK ks (e m) (e k) (e v) H K := upd_eq (K := K)
theorem opK_lkp {ks ok : Bool} {z : AV} {m k : Operand} : opK P (.lkp ks ok z m k) e H K Kp = lkpK ks ok z (e m) (e k) H fun y => K y H := lkp_eq (K := fun y => K y H)
theorem opD_lkp {ks ok : Bool} {z : AV} {m k : Operand} : opD P (.lkp ks ok z m k) e H K = lkpK ks ok z (e m) (e k) H fun y => K y H := lkp_eq (K := fun y => K y H)
theorem opK_lenm {m : Operand} : opK P (.lenm m) e H K Kp = lenmK (e m) H fun y => K y H := rfl
theorem opD_lenm {m : Operand} : opD P (.lenm m) e H K = lenmK (e m) H fun y => K y H := rfl
theorem opK_mkm : opK P .mkm e H K Kp = bindH (.mp H.length) (H ++ [.mapo []]) K := rfl
theorem opD_mkm : opD P .mkm e H K = bindH (.mp H.length) (H ++ [.mapo []]) K := rfl
theorem opK_men {ks : Bool} {z : AV} {m k : Operand} : opK P (.men ks z m k) e H K Kp = menK ks z (e m) (e k) H K := men_eq (K := K)
theorem opD_men {ks : Bool} {z : AV} {m k : Operand} : opD P (.men ks z m k) e H K = menK ks z (e m) (e k) H K := men_eq (K := K)
theorem opK_est {m s v : Operand} : opK P (.est m s v) e H K Kp = estK (e m) (e s) (e v) H K := rfl
theorem opD_est {m s v : Operand} : opD P (.est m s v) e H K = estK (e m) (e s) (e v) H K := rfl
theorem opK_rng {x : Operand} : opK P (.rng x) e H K Kp = rngK (e x) H K := rfl
theorem opD_rng {x : Operand} : opD P (.rng x) e H K = rngK (e x) H K := rfl
theorem opK_nxt {x : Operand} : opK P (.nxt x) e H K Kp = nxtK (e x) H K := rfl
theorem opD_nxt {x : Operand} : opD P (.nxt x) e H K = nxtK (e x) H K := rfl
end eqs
section nx
variable {P : Program} {d : Bool} {t : Nat} {l : List COper} {r : Regs} {L : St → Prop} {Lp : AV → St → Prop} {H : List AO}
theorem nxt_anyv : nxt P d t l r L Lp .any H = opsK P d l ⟨(t, .any) :: r, H⟩ L Lp := rfl
theorem nxt_ownx {i z o n c : Nat} : nxt P d t l r L Lp (.ownx i z o n c) H = opsK P d l ⟨(t, .ownx i z o n c) :: r, H⟩ L Lp := rfl
theorem nxt_mp {i : Nat} : nxt P d t l r L Lp (.mp i) H = opsK P d l ⟨(t, .mp i) :: r, H⟩ L Lp := rfl
theorem nxt_it {i : Nat} : nxt P d t l r L Lp (.it i) H = opsK P d l ⟨(t, .it i) :: r, H⟩ L Lp := rfl
theorem nxt_top : nxt P d t l r L Lp .top H = opsK P d l ⟨(t, .top) :: r, H⟩ L Lp := rfl
theorem nxt0_top : nxt0 P d l r L Lp .top H = opsK P d l ⟨r, H⟩ L Lp := rfl
theorem nxt0_own {i z o n : Nat} : nxt0 P d l r L Lp (.own i z o n) H = opsK P d l ⟨r, H⟩ L Lp := rfl
end nx
theorem mm_min {k : IntKind} {a b : Int} {K : AV → Prop} : mmK false k a [.int k b] K = bindV (.int k (min a b)) K := by
  have : (if b < a then b else a) = min a b := by omega
  simp only [mmK, true_and, Bool.false_eq_true, if_false, this, bindV]
theorem mm_max {k : IntKind} {a b : Int} {K : AV → Prop} : mmK true k a [.int k b] K = bindV (.int k (max a b)) K := by
  have : (if b > a then b else a) = max a b := by omega
  simp only [mmK, true_and, if_true, this, bindV]
def mm2 := And.intro @mm_min @mm_max
def iabK (z : Nat) (x i : AV) (K : AV → Prop) : Prop :=
  match x, i with
  | .own id z' off len, .int _ j => z' = z ∧ 0 ≤ j ∧ j < len ∧ bindV (.ref id 0 ((off + j.toNat) * z)) K
  | _, _ => False
theorem opK_iab {P : Program} {e : Operand → AV} {H : List AO} {K Kp : AV → List AO → Prop} {z : Nat} {x i : Operand} : opK P (.iab z x i) e H K Kp = iabK z (e x) (e i) fun y => K y H := rfl
theorem opD_iab {P : Program} {e : Operand → AV} {H : List AO} {K : AV → List AO → Prop} {z : Nat} {x i : Operand} : opD P (.iab z x i) e H K = iabK z (e x) (e i) fun y => K y H := propext ⟨fun h => h.2, fun h => ⟨rfl, h⟩⟩
def pre4 := And.intro (And.intro @opK_iab (And.intro @opD_iab @iabK.eq_1)) <| And.intro (And.intro (And.intro @opK_lkp @opD_lkp) (And.intro (And.intro @opK_lenm @opD_lenm) (And.intro (And.intro (And.intro @opK_mkm @opD_mkm) (And.intro @opK_men @opD_men)) (And.intro (And.intro (And.intro @opK_est @opD_est) (And.intro @opK_upd @opD_upd)) (And.intro (And.intro @opK_rng @opD_rng) (And.intro @opK_nxt @opD_nxt)))))) <| And.intro @opK_mvx <| And.intro @opK_agz <| And.intro @opK_apin <| And.intro @opD_apin <| And.intro @opK_cpy (And.intro @opD_cpy (And.intro @opK_clr (And.intro @opK_s30 (And.intro @opK_s3 (And.intro @opK_cape (And.intro @opK_sle @opK_xcl))))))
def post5 := (And.intro @nxt_mp (And.intro @nxt_it (And.intro @lkV.eq_1 (And.intro @lkV.eq_2 (And.intro @lkpF.eq_1 (And.intro @lkpF.eq_2 (And.intro @lkpO.eq_1 (And.intro @lkpK.eq_1 (And.intro @lkpK.eq_2 (And.intro @lenmO.eq_1 (And.intro @lenmK.eq_1 (And.intro @lenmK.eq_2 (And.intro @menF.eq_1 (And.intro @menF.eq_2 (And.intro @menO.eq_1 (And.intro @menK.eq_1 (And.intro @updF.eq_1 (And.intro @updF.eq_2 (And.intro @updO.eq_1 (And.intro @updK.eq_1 (And.intro @estO.eq_1 (And.intro @estK.eq_1 (And.intro @rngK.eq_1 (And.intro @nxtR.eq_1 (And.intro @nxtR.eq_2 (And.intro @nxtO.eq_1 @nxtK.eq_1))))))))))))))))))))))))))
def post4 := And.intro post5 <| And.intro @nxt_ownx <| And.intro @mvx4O.eq_1 <| And.intro @mvx4K.eq_1 <| And.intro @mvx4K.eq_2 <| And.intro @agz4O.eq_1 <| And.intro @agz4K.eq_1 <| And.intro @apinO.eq_1 <| And.intro @apinK.eq_1 <| And.intro @cpyO.eq_1 (And.intro @cpyK.eq_1 (And.intro @cpyK.eq_2 (And.intro @clrO.eq_1 (And.intro @clrK.eq_1 (And.intro @s30K.eq_1 (And.intro @s3K.eq_1 (And.intro @cap4O.eq_1 (And.intro @cap4K.eq_1 (And.intro @cap4K.eq_2 (And.intro @sle4O.eq_1 (And.intro @sle4K.eq_1 (And.intro @nxt_anyv (And.intro @nxt_top (And.intro @nxt0_top @nxt0_own))))))))))))))
end Go.Ab
namespace Go.Ab
open Go
set_option linter.unusedSimpArgs false
set_option linter.unusedVariables false
variable {K : AV → Prop}
theorem wrap_i64 {z : Int} (h1 : -9223372036854775808 ≤ z) (h2 : z < 9223372036854775808) : IntKind.i64.wrap z = z := by
  simp [IntKind.wrap, IntKind.signed, IntKind.bits]
  omega
theorem wrap_u8 (z : Int) : IntKind.u8.wrap z = ((BitVec.ofInt 8 z).toNat : Int) := by
  simp [IntKind.wrap, IntKind.signed, IntKind.bits, BitVec.toNat_ofInt]
  omega
theorem of_u8 (c : BitVec 8) : BitVec.ofInt 8 (c.toNat : Int) = c := by
  rw [BitVec.ofInt_natCast, BitVec.ofNat_toNat, BitVec.setWidth_eq]
theorem ik_add_u8 {a b : Int} : ik .add .u8 a b K = K (.int .u8 ((BitVec.ofInt 8 a + BitVec.ofInt 8 b).toNat : Int)) := by
  show K (.int .u8 (IntKind.u8.wrap (a + b))) = _
  rw [wrap_u8, BitVec.ofInt_add]
theorem ik_sub_u8 {a b : Int} : ik .sub .u8 a b K = K (.int .u8 ((BitVec.ofInt 8 a - BitVec.ofInt 8 b).toNat : Int)) := by
  show K (.int .u8 (IntKind.u8.wrap (a - b))) = _
  rw [wrap_u8, Int.sub_eq_add_neg, BitVec.ofInt_add, BitVec.ofInt_neg, BitVec.sub_eq_add_neg]
theorem ik_mul_u8 {a b : Int} : ik .mul .u8 a b K = K (.int .u8 ((BitVec.ofInt 8 a * BitVec.ofInt 8 b).toNat : Int)) := by
  show K (.int .u8 (IntKind.u8.wrap (a * b))) = _
  rw [wrap_u8, BitVec.ofInt_mul]
theorem ik_and_u8 {a b : Int} : ik .and .u8 a b K = K (.int .u8 ((BitVec.ofInt 8 a &&& BitVec.ofInt 8 b).toNat : Int)) := by
  show K (.int .u8 (IntKind.u8.wrap ((BitVec.ofInt 8 a &&& BitVec.ofInt 8 b).toNat : Int))) = _
  rw [wrap_u8, of_u8]
theorem ik_or_u8 {a b : Int} : ik .or .u8 a b K = K (.int .u8 ((BitVec.ofInt 8 a ||| BitVec.ofInt 8 b).toNat : Int)) := by
  show K (.int .u8 (IntKind.u8.wrap ((BitVec.ofInt 8 a ||| BitVec.ofInt 8 b).toNat : Int))) = _
  rw [wrap_u8, of_u8]
theorem ik_xor_u8 {a b : Int} : ik .xor .u8 a b K = K (.int .u8 ((BitVec.ofInt 8 a ^^^ BitVec.ofInt 8 b).toNat : Int)) := by
  show K (.int .u8 (IntKind.u8.wrap ((BitVec.ofInt 8 a ^^^ BitVec.ofInt 8 b).toNat : Int))) = _
  rw [wrap_u8, of_u8]
theorem ik_shr_u8 {c : BitVec 8} {b : Int} : ik .shr .u8 (c.toNat : Int) b K = (0 ≤ b ∧ K (.int .u8 ((c >>> (min b.toNat 8)).toNat : Int))) := by
  have e : ((c.toNat : Int).fdiv (2 ^ (min b.toNat 8))) = ((c >>> (min b.toNat 8)).toNat : Int) := by
    rw [BitVec.toNat_ushiftRight, Nat.shiftRight_eq_div_pow]
    have : ((2 : Int) ^ (min b.toNat 8)) = ((2 ^ (min b.toNat 8) : Nat) : Int) := by simp
    rw [this, Int.fdiv_eq_ediv_of_nonneg _ (Int.natCast_nonneg _)]
    simp
  show (0 ≤ b ∧ K (.int .u8 ((c.toNat : Int).fdiv (2 ^ (min b.toNat 8))))) = _
  rw [e]
theorem ik_shl_u8 {a : Int} {b : Int} : ik .shl .u8 a b K = (0 ≤ b ∧ K (.int .u8 ((BitVec.ofInt 8 a <<< (min b.toNat 8)).toNat : Int))) := by
  show (0 ≤ b ∧ K (.int .u8 (IntKind.u8.wrap (a * 2 ^ (min b.toNat 8))))) = _
  rw [wrap_u8, BitVec.ofInt_mul, BitVec.shiftLeft_eq_mul_twoPow]
  have e : BitVec.ofInt 8 (2 ^ (min b.toNat 8)) = BitVec.twoPow 8 (min b.toNat 8) := by
    have : ((2 : Int) ^ (min b.toNat 8)) = ((2 ^ (min b.toNat 8) : Nat) : Int) := by simp
    rw [this, BitVec.ofInt_natCast]
    apply BitVec.eq_of_toNat_eq
    simp [BitVec.toNat_twoPow]
  rw [e]
theorem cvi_u8 {k' : IntKind} {a : Int} : cviK .u8 (.int k' a) K = bindV (.int .u8 ((BitVec.ofInt 8 a).toNat : Int)) K := by
  simp only [cviK, wrap_u8]
theorem un_xor_u8 {a : Int} : unK .xor (.int .u8 a) K = K (.int .u8 ((~~~ (BitVec.ofInt 8 a)).toNat : Int)) := by
  show K (.int .u8 (IntKind.u8.wrap ((BitVec.ofInt 8 (IntKind.u8.max : Int) ^^^ BitVec.ofInt 8 a).toNat : Int))) = _
  have e : BitVec.ofInt 8 (IntKind.u8.max : Int) = BitVec.allOnes 8 := by decide
  rw [wrap_u8, of_u8, e, BitVec.allOnes_xor]
theorem eq_u8 {c d : BitVec 8} : ((c.toNat : Int) == (d.toNat : Int)) = (c == d) := by
  rw [Bool.eq_iff_iff, beq_iff_eq, beq_iff_eq, Int.ofNat_inj, BitVec.toNat_inj]
theorem ne_u8 {c d : BitVec 8} : ((c.toNat : Int) != (d.toNat : Int)) = (c != d) := by
  simp only [bne, eq_u8]
theorem wrap_u32 (z : Int) : IntKind.u32.wrap z = ((BitVec.ofInt 32 z).toNat : Int) := by
  simp [IntKind.wrap, IntKind.signed, IntKind.bits, BitVec.toNat_ofInt]
  omega
theorem of_u32 (c : BitVec 32) : BitVec.ofInt 32 (c.toNat : Int) = c := by
  rw [BitVec.ofInt_natCast, BitVec.ofNat_toNat, BitVec.setWidth_eq]
theorem ik_add_u32 {a b : Int} : ik .add .u32 a b K = K (.int .u32 ((BitVec.ofInt 32 a + BitVec.ofInt 32 b).toNat : Int)) := by
  show K (.int .u32 (IntKind.u32.wrap (a + b))) = _
  rw [wrap_u32, BitVec.ofInt_add]
theorem ik_sub_u32 {a b : Int} : ik .sub .u32 a b K = K (.int .u32 ((BitVec.ofInt 32 a - BitVec.ofInt 32 b).toNat : Int)) := by
  show K (.int .u32 (IntKind.u32.wrap (a - b))) = _
  rw [wrap_u32, Int.sub_eq_add_neg, BitVec.ofInt_add, BitVec.ofInt_neg, BitVec.sub_eq_add_neg]
theorem ik_mul_u32 {a b : Int} : ik .mul .u32 a b K = K (.int .u32 ((BitVec.ofInt 32 a * BitVec.ofInt 32 b).toNat : Int)) := by
  show K (.int .u32 (IntKind.u32.wrap (a * b))) = _
  rw [wrap_u32, BitVec.ofInt_mul]
theorem ik_and_u32 {a b : Int} : ik .and .u32 a b K = K (.int .u32 ((BitVec.ofInt 32 a &&& BitVec.ofInt 32 b).toNat : Int)) := by
  show K (.int .u32 (IntKind.u32.wrap ((BitVec.ofInt 32 a &&& BitVec.ofInt 32 b).toNat : Int))) = _
  rw [wrap_u32, of_u32]
theorem ik_or_u32 {a b : Int} : ik .or .u32 a b K = K (.int .u32 ((BitVec.ofInt 32 a ||| BitVec.ofInt 32 b).toNat : Int)) := by
  show K (.int .u32 (IntKind.u32.wrap ((BitVec.ofInt 32 a ||| BitVec.ofInt 32 b).toNat : Int))) = _
  rw [wrap_u32, of_u32]
theorem ik_xor_u32 {a b : Int} : ik .xor .u32 a b K = K (.int .u32 ((BitVec.ofInt 32 a ^^^ BitVec.ofInt 32 b).toNat : Int)) := by
  show K (.int .u32 (IntKind.u32.wrap ((BitVec.ofInt 32 a ^^^ BitVec.ofInt 32 b).toNat : Int))) = _
  rw [wrap_u32, of_u32]
theorem ik_shr_u32 {c : BitVec 32} {b : Int} : ik .shr .u32 (c.toNat : Int) b K = (0 ≤ b ∧ K (.int .u32 ((c >>> (min b.toNat 32)).toNat : Int))) := by
  have e : ((c.toNat : Int).fdiv (2 ^ (min b.toNat 32))) = ((c >>> (min b.toNat 32)).toNat : Int) := by
    rw [BitVec.toNat_ushiftRight, Nat.shiftRight_eq_div_pow]
    have : ((2 : Int) ^ (min b.toNat 32)) = ((2 ^ (min b.toNat 32) : Nat) : Int) := by simp
    rw [this, Int.fdiv_eq_ediv_of_nonneg _ (Int.natCast_nonneg _)]
    simp
  show (0 ≤ b ∧ K (.int .u32 ((c.toNat : Int).fdiv (2 ^ (min b.toNat 32))))) = _
  rw [e]
theorem ik_shl_u32 {a : Int} {b : Int} : ik .shl .u32 a b K = (0 ≤ b ∧ K (.int .u32 ((BitVec.ofInt 32 a <<< (min b.toNat 32)).toNat : Int))) := by
  show (0 ≤ b ∧ K (.int .u32 (IntKind.u32.wrap (a * 2 ^ (min b.toNat 32))))) = _
  rw [wrap_u32, BitVec.ofInt_mul, BitVec.shiftLeft_eq_mul_twoPow]
  have e : BitVec.ofInt 32 (2 ^ (min b.toNat 32)) = BitVec.twoPow 32 (min b.toNat 32) := by
    have : ((2 : Int) ^ (min b.toNat 32)) = ((2 ^ (min b.toNat 32) : Nat) : Int) := by simp
    rw [this, BitVec.ofInt_natCast]
    apply BitVec.eq_of_toNat_eq
    simp [BitVec.toNat_twoPow]
  rw [e]
theorem cvi_u32 {k' : IntKind} {a : Int} : cviK .u32 (.int k' a) K = bindV (.int .u32 ((BitVec.ofInt 32 a).toNat : Int)) K := by
  simp only [cviK, wrap_u32]
theorem un_xor_u32 {a : Int} : unK .xor (.int .u32 a) K = K (.int .u32 ((~~~ (BitVec.ofInt 32 a)).toNat : Int)) := by
  show K (.int .u32 (IntKind.u32.wrap ((BitVec.ofInt 32 (IntKind.u32.max : Int) ^^^ BitVec.ofInt 32 a).toNat : Int))) = _
  have e : BitVec.ofInt 32 (IntKind.u32.max : Int) = BitVec.allOnes 32 := by decide
  rw [wrap_u32, of_u32, e, BitVec.allOnes_xor]
theorem eq_u32 {c d : BitVec 32} : ((c.toNat : Int) == (d.toNat : Int)) = (c == d) := by
  rw [Bool.eq_iff_iff, beq_iff_eq, beq_iff_eq, Int.ofNat_inj, BitVec.toNat_inj]
theorem ne_u32 {c d : BitVec 32} : ((c.toNat : Int) != (d.toNat : Int)) = (c != d) := by
  simp only [bne, eq_u32]
theorem wrap_u64 (z : Int) : IntKind.u64.wrap z = ((BitVec.ofInt 64 z).toNat : Int) := by
  simp [IntKind.wrap, IntKind.signed, IntKind.bits, BitVec.toNat_ofInt]
  omega
theorem of_u64 (c : BitVec 64) : BitVec.ofInt 64 (c.toNat : Int) = c := by
  rw [BitVec.ofInt_natCast, BitVec.ofNat_toNat, BitVec.setWidth_eq]
theorem ik_add_u64 {a b : Int} : ik .add .u64 a b K = K (.int .u64 ((BitVec.ofInt 64 a + BitVec.ofInt 64 b).toNat : Int)) := by
  show K (.int .u64 (IntKind.u64.wrap (a + b))) = _
  rw [wrap_u64, BitVec.ofInt_add]
theorem ik_sub_u64 {a b : Int} : ik .sub .u64 a b K = K (.int .u64 ((BitVec.ofInt 64 a - BitVec.ofInt 64 b).toNat : Int)) := by
  show K (.int .u64 (IntKind.u64.wrap (a - b))) = _
  rw [wrap_u64, Int.sub_eq_add_neg, BitVec.ofInt_add, BitVec.ofInt_neg, BitVec.sub_eq_add_neg]
theorem ik_mul_u64 {a b : Int} : ik .mul .u64 a b K = K (.int .u64 ((BitVec.ofInt 64 a * BitVec.ofInt 64 b).toNat : Int)) := by
  show K (.int .u64 (IntKind.u64.wrap (a * b))) = _
  rw [wrap_u64, BitVec.ofInt_mul]
theorem ik_and_u64 {a b : Int} : ik .and .u64 a b K = K (.int .u64 ((BitVec.ofInt 64 a &&& BitVec.ofInt 64 b).toNat : Int)) := by
  show K (.int .u64 (IntKind.u64.wrap ((BitVec.ofInt 64 a &&& BitVec.ofInt 64 b).toNat : Int))) = _
  rw [wrap_u64, of_u64]
theorem ik_or_u64 {a b : Int} : ik .or .u64 a b K = K (.int .u64 ((BitVec.ofInt 64 a ||| BitVec.ofInt 64 b).toNat : Int)) := by
  show K (.int .u64 (IntKind.u64.wrap ((BitVec.ofInt 64 a ||| BitVec.ofInt 64 b).toNat : Int))) = _
  rw [wrap_u64, of_u64]
theorem ik_xor_u64 {a b : Int} : ik .xor .u64 a b K = K (.int .u64 ((BitVec.ofInt 64 a ^^^ BitVec.ofInt 64 b).toNat : Int)) := by
  show K (.int .u64 (IntKind.u64.wrap ((BitVec.ofInt 64 a ^^^ BitVec.ofInt 64 b).toNat : Int))) = _
  rw [wrap_u64, of_u64]
theorem ik_shr_u64 {c : BitVec 64} {b : Int} : ik .shr .u64 (c.toNat : Int) b K = (0 ≤ b ∧ K (.int .u64 ((c >>> (min b.toNat 64)).toNat : Int))) := by
  have e : ((c.toNat : Int).fdiv (2 ^ (min b.toNat 64))) = ((c >>> (min b.toNat 64)).toNat : Int) := by
    rw [BitVec.toNat_ushiftRight, Nat.shiftRight_eq_div_pow]
    have : ((2 : Int) ^ (min b.toNat 64)) = ((2 ^ (min b.toNat 64) : Nat) : Int) := by simp
    rw [this, Int.fdiv_eq_ediv_of_nonneg _ (Int.natCast_nonneg _)]
    simp
  show (0 ≤ b ∧ K (.int .u64 ((c.toNat : Int).fdiv (2 ^ (min b.toNat 64))))) = _
  rw [e]
theorem ik_shl_u64 {a : Int} {b : Int} : ik .shl .u64 a b K = (0 ≤ b ∧ K (.int .u64 ((BitVec.ofInt 64 a <<< (min b.toNat 64)).toNat : Int))) := by
  show (0 ≤ b ∧ K (.int .u64 (IntKind.u64.wrap (a * 2 ^ (min b.toNat 64))))) = _
  rw [wrap_u64, BitVec.ofInt_mul, BitVec.shiftLeft_eq_mul_twoPow]
  have e : BitVec.ofInt 64 (2 ^ (min b.toNat 64)) = BitVec.twoPow 64 (min b.toNat 64) := by
    have : ((2 : Int) ^ (min b.toNat 64)) = ((2 ^ (min b.toNat 64) : Nat) : Int) := by simp
    rw [this, BitVec.ofInt_natCast]
    apply BitVec.eq_of_toNat_eq
    simp [BitVec.toNat_twoPow]
  rw [e]
theorem cvi_u64 {k' : IntKind} {a : Int} : cviK .u64 (.int k' a) K = bindV (.int .u64 ((BitVec.ofInt 64 a).toNat : Int)) K := by
  simp only [cviK, wrap_u64]
theorem un_xor_u64 {a : Int} : unK .xor (.int .u64 a) K = K (.int .u64 ((~~~ (BitVec.ofInt 64 a)).toNat : Int)) := by
  show K (.int .u64 (IntKind.u64.wrap ((BitVec.ofInt 64 (IntKind.u64.max : Int) ^^^ BitVec.ofInt 64 a).toNat : Int))) = _
  have e : BitVec.ofInt 64 (IntKind.u64.max : Int) = BitVec.allOnes 64 := by decide
  rw [wrap_u64, of_u64, e, BitVec.allOnes_xor]
theorem eq_u64 {c d : BitVec 64} : ((c.toNat : Int) == (d.toNat : Int)) = (c == d) := by
  rw [Bool.eq_iff_iff, beq_iff_eq, beq_iff_eq, Int.ofNat_inj, BitVec.toNat_inj]
theorem ne_u64 {c d : BitVec 64} : ((c.toNat : Int) != (d.toNat : Int)) = (c != d) := by
  simp only [bne, eq_u64]
theorem ik_lss {k : IntKind} {a b : Int} : ik .lss k a b K = K (.bool (decide (a < b))) := rfl
theorem ik_leq {k : IntKind} {a b : Int} : ik .leq k a b K = K (.bool (decide (a ≤ b))) := rfl
theorem ik_gtr {k : IntKind} {a b : Int} : ik .gtr k a b K = K (.bool (decide (a > b))) := rfl
theorem ik_geq {k : IntKind} {a b : Int} : ik .geq k a b K = K (.bool (decide (a ≥ b))) := rfl
theorem ik_eql {k : IntKind} {a b : Int} : ik .eql k a b K = K (.bool (a == b)) := rfl
theorem ik_neq {k : IntKind} {a b : Int} : ik .neq k a b K = K (.bool (a != b)) := rfl
theorem ik_add_i64 {a b : Int} : ik .add .i64 a b K = K (.int .i64 (IntKind.i64.wrap (a + b))) := rfl
theorem ik_sub_i64 {a b : Int} : ik .sub .i64 a b K = K (.int .i64 (IntKind.i64.wrap (a - b))) := rfl
theorem ik_mul_i64 {a b : Int} : ik .mul .i64 a b K = K (.int .i64 (IntKind.i64.wrap (a * b))) := rfl
theorem ik_quo {k : IntKind} {a b : Int} : ik .quo k a b K = (b ≠ 0 ∧ K (.int k (k.wrap (a.tdiv b)))) := rfl
theorem ik_rem {k : IntKind} {a b : Int} : ik .rem k a b K = (b ≠ 0 ∧ K (.int k (a.tmod b))) := rfl
theorem cvi_i64 {k : IntKind} {a : Int} : cviK .i64 (.int k a) K = bindV (.int .i64 (IntKind.i64.wrap a)) K := rfl
def W (x : UInt8) : BitVec 32 := x.toBitVec.setWidth 32
theorem of_byte32 (x : UInt8) : BitVec.ofInt 32 (x.toNat : Int) = W x := by
  rw [BitVec.ofInt_natCast]
  apply BitVec.eq_of_toNat_eq
  simp [W]
theorem of_byte8 (x : UInt8) : BitVec.ofInt 8 (x.toNat : Int) = x.toBitVec := by
  rw [BitVec.ofInt_natCast]
  apply BitVec.eq_of_toNat_eq
  simp
theorem of_word8 (c : BitVec 32) : BitVec.ofInt 8 (c.toNat : Int) = c.setWidth 8 := by
  rw [BitVec.ofInt_natCast]
  apply BitVec.eq_of_toNat_eq
  simp
end Go.Ab
namespace Go.Ab
open Go
set_option linter.unusedSimpArgs false
set_option linter.unusedVariables false
section
variable {P : Program} {t e : TypeId}
def okI (n : Int) : Prop := -2 ^ 63 ≤ n ∧ n < 2 ^ 63
theorem reads_i64 (ht : P.underlying t = some (.int .i64)) : Reads P t I64 okI :=
  (reads_int ht).map (fun n => n) fun n hn => by
    have h := bounds_i64 hn
    exact ⟨rfl, by unfold okI; omega⟩
def okL {α : Type} (ok : α → Prop) (l : List α) : Prop := (∀ a ∈ l, ok a) ∧ l.length < 2 ^ 63
theorem reads_list {α : Type} {av : α → AV} {ok : α → Prop} {z : Nat} (ht : P.underlying t = some (.slice e)) (hz : P.cellsOf e = z) (hz0 : 0 < z) (he : Reads P e av ok) (hel : ∀ a, ok a → (av a).el z = true) :
    Reads P t (fun l : List α => .sl false z (l.map av)) (okL ok) :=
  (reads_slice ht hz hz0 he hel).map (fun l => l) fun l h => ⟨rfl, h.1, by have := h.2; unfold maxLen at this; omega⟩
theorem reads_ints (ht : P.underlying t = some (.slice e)) (he : P.underlying e = some (.int .i64)) (hz : P.cellsOf e = 1) : Reads P t SI (okL okI) :=
  (reads_list ht hz (by omega) (reads_i64 he) (fun _ _ => rfl)).map (fun l => l) fun l h => ⟨rfl, h⟩
end
end Go.Ab
namespace Go.Ab
open Go
set_option linter.unusedSimpArgs false
set_option linter.unusedVariables false
theorem AV.belL_of {n : Nat} : ∀ {l : List AV}, (∀ (k : Nat) (y : AV), l[k]? = some y → AV.bel n y = true) → AV.belL n l = true
  | [], _ => rfl
  | a :: l, h => by
    simp only [AV.belL, Bool.and_eq_true]
    exact ⟨h 0 a rfl, AV.belL_of fun k y hk => h (k + 1) y (by simpa using hk)⟩
theorem belE_of {n : Nat} : ∀ {l : List (AV × AV)}, (∀ (k : Nat) (y : AV × AV), l[k]? = some y → y.1.bel n = true ∧ y.2.bel n = true) → belE n l = true
  | [], _ => rfl
  | a :: l, h => by
    simp only [belE, Bool.and_eq_true]
    exact ⟨h 0 a rfl, belE_of fun k y hk => h (k + 1) y (by simpa using hk)⟩
section ren
variable {w : World} {S S' : Bool → Nat → Prop} {μ μ' : Nat → Option Loc} {n n' m : Nat} {ρ : Nat → Nat}
theorem VR.unren {x : Value} {y' : AV} (h : VR w S μ n x y') (hS : ∀ t b, S t b → S' t b) : ∀ y : AV, y' = y.ren ρ → y.bel m = true → (∀ id, id < m → μ' id = μ (ρ id)) → VR w S' μ' m x y := by
  induction h with
  | int => intro y e hb hμ; cases y <;> simp [AV.ren] at e; obtain ⟨rfl, rfl⟩ := e; exact .int
  | bool => intro y e hb hμ; cases y <;> simp [AV.ren] at e; subst e; exact .bool
  | str h => intro y e hb hμ; cases y <;> simp [AV.ren] at e; subst e; exact .str h
  | nilp => intro y e hb hμ; cases y <;> simp [AV.ren] at e; exact .nilp
  | nils => intro y e hb hμ; cases y <;> simp [AV.ren] at e; exact .nils
  | nilf => intro y e hb hμ; cases y <;> simp [AV.ren] at e; exact .nilf
  | nili => intro y e hb hμ; cases y <;> simp [AV.ren] at e; exact .nili
  | nilm => intro y e hb hμ; cases y <;> simp [AV.ren] at e; exact .nilm
  | sl0 => intro y e hb hμ; cases y <;> simp [AV.ren] at e; obtain ⟨rfl, rfl, rfl⟩ := e; exact .sl0
  | sl u hm hlen hS1 hel hc1 _ ih =>
    intro y e hb hμ
    cases y <;> simp [AV.ren] at e
    obtain ⟨rfl, rfl, rfl⟩ := e
    refine .sl u hm hlen (hS _ _ hS1) hel hc1 fun k y hk => ?_
    have hok := el_get hel hk
    exact ih k y hk y (AV.ren_ok hok).symm (AV.bel_ok hok) hμ
  | own0 h he => intro y e hb hμ; cases y <;> simp [AV.ren] at e; obtain ⟨rfl, rfl, rfl, rfl⟩ := e; simp only [AV.bel, decide_eq_true_eq] at hb; exact .own0 hb fun L hL => he L ((hμ _ hb).symm.trans hL)
  | own h hL hz hlen hcap => intro y e hb hμ; cases y <;> simp [AV.ren] at e; obtain ⟨rfl, rfl, rfl, rfl⟩ := e; simp only [AV.bel, decide_eq_true_eq] at hb; exact .own hb ((hμ _ hb).trans hL) hz hlen hcap
  | ownx0 h he => intro y e hb hμ; cases y <;> simp [AV.ren] at e; obtain ⟨rfl, rfl, rfl, rfl, rfl⟩ := e; simp only [AV.bel, decide_eq_true_eq] at hb; exact .ownx0 hb fun L hL => he L ((hμ _ hb).symm.trans hL)
  | ownx h hL hz hlen hcap => intro y e hb hμ; cases y <;> simp [AV.ren] at e; obtain ⟨rfl, rfl, rfl, rfl, rfl⟩ := e; simp only [AV.bel, decide_eq_true_eq] at hb; exact .ownx hb ((hμ _ hb).trans hL) hz hlen hcap
  | ref h hL => intro y e hb hμ; cases y <;> simp [AV.ren] at e; obtain ⟨rfl, rfl, rfl⟩ := e; simp only [AV.bel, decide_eq_true_eq] at hb; exact .ref hb ((hμ _ hb).trans hL)
  | ip u hS1 hok hc1 _ ih =>
    intro y e hb hμ
    cases y <;> simp [AV.ren] at e
    obtain ⟨rfl, rfl⟩ := e
    refine .ip u (hS _ _ hS1) hok hc1 fun k y hk => ?_
    have hy := hok y (List.mem_of_getElem? hk)
    exact ih k y hk y (AV.ren_ok hy).symm (AV.bel_ok hy) hμ
  | agg hl h1 _ ih =>
    intro y e hb hμ
    cases y <;> simp [AV.ren] at e
    rename_i cs'
    subst e
    simp only [AV.bel] at hb
    refine .agg (by rw [AV.renL_len] at hl; exact hl) (fun a ha => ?_) (fun k y hk => ih k (y.ren ρ) (by rw [AV.renL_get, hk]; rfl) y rfl (AV.belL_get hb hk) hμ)
    obtain ⟨k, hk⟩ := List.mem_iff_getElem?.1 ha
    rw [← AV.one_ren (ρ := ρ)]
    exact h1 _ (List.mem_of_getElem? (i := k) (by rw [AV.renL_get, hk]; rfl))
  | tup hl _ ih =>
    intro y e hb hμ
    cases y <;> simp [AV.ren] at e
    subst e
    simp only [AV.bel] at hb
    exact .tup (by rw [AV.renL_len] at hl; exact hl) (fun k y hk => ih k (y.ren ρ) (by rw [AV.renL_get, hk]; rfl) y rfl (AV.belL_get hb hk) hμ)
  | fn hl hk _ _ ih1 ih2 =>
    intro y e hb hμ
    cases y <;> simp [AV.ren] at e
    obtain ⟨rfl, rfl, rfl⟩ := e
    simp only [AV.bel, Bool.and_eq_true] at hb
    exact .fn (by rw [AV.renL_len] at hl; exact hl) (by rw [AV.renL_len] at hk; exact hk) (fun k y hk => ih1 k (y.ren ρ) (by rw [AV.renL_get, hk]; rfl) y rfl (AV.belL_get hb.1 hk) hμ)
      (fun k y hk => ih2 k (y.ren ρ) (by rw [AV.renL_get, hk]; rfl) y rfl (AV.belL_get hb.2 hk) hμ)
  | ifc _ ih =>
    intro y e hb hμ
    cases y <;> simp [AV.ren] at e
    obtain ⟨rfl, rfl⟩ := e
    simp only [AV.bel] at hb
    exact .ifc (ih _ rfl hb hμ)
  | mp h hL => intro y e hb hμ; cases y <;> simp [AV.ren] at e; subst e; simp only [AV.bel, decide_eq_true_eq] at hb; exact .mp hb ((hμ _ hb).trans hL)
  | it h hL => intro y e hb hμ; cases y <;> simp [AV.ren] at e; subst e; simp only [AV.bel, decide_eq_true_eq] at hb; exact .it hb ((hμ _ hb).trans hL)
  | any h => intro y e hb hμ; cases y <;> simp [AV.ren] at e; exact .any h
  | top => intro y e hb hμ; cases y <;> simp [AV.ren] at e; exact .top
end ren
section cut
variable {w : World} {S : Bool → Nat → Prop} {μ : Nat → Option Loc} {n k : Nat} {x : Value} {y : AV}
theorem VR.bel (h : VR w S μ n x y) : y.bel n = true := by
  induction h with
  | own0 h => simpa [AV.bel] using h
  | own h => simpa [AV.bel] using h
  | ref h => simpa [AV.bel] using h
  | ownx0 h => simpa [AV.bel] using h
  | ownx h => simpa [AV.bel] using h
  | mp h => simpa [AV.bel] using h
  | it h => simpa [AV.bel] using h
  | agg hl h1 _ ih => simp only [AV.bel]; exact AV.belL_of ih
  | tup hl _ ih => simp only [AV.bel]; exact AV.belL_of ih
  | fn hl hk _ _ ih1 ih2 => simp only [AV.bel, Bool.and_eq_true]; exact ⟨AV.belL_of ih1, AV.belL_of ih2⟩
  | ifc _ ih => simpa only [AV.bel] using ih
  | _ => rfl
theorem VR.cut (h : VR w S μ n x y) : y.bel k = true → VR w S μ k x y := by
  intro hb
  induction h with
  | int => exact .int
  | bool => exact .bool
  | str h => exact .str h
  | nilp => exact .nilp
  | nils => exact .nils
  | nilf => exact .nilf
  | nili => exact .nili
  | nilm => exact .nilm
  | sl0 => exact .sl0
  | sl u hm hlen hS1 hel hc1 _ ih => exact .sl u hm hlen hS1 hel hc1 fun j y hj => ih j y hj (AV.bel_ok (el_get hel hj))
  | own0 h he => simp only [AV.bel, decide_eq_true_eq] at hb; exact .own0 hb he
  | own h hL hz hlen hcap => simp only [AV.bel, decide_eq_true_eq] at hb; exact .own hb hL hz hlen hcap
  | ownx0 h he => simp only [AV.bel, decide_eq_true_eq] at hb; exact .ownx0 hb he
  | ownx h hL hz hlen hcap => simp only [AV.bel, decide_eq_true_eq] at hb; exact .ownx hb hL hz hlen hcap
  | ref h hL => simp only [AV.bel, decide_eq_true_eq] at hb; exact .ref hb hL
  | ip u hS1 hok hc1 _ ih => exact .ip u hS1 hok hc1 fun j y hj => ih j y hj (AV.bel_ok (hok y (List.mem_of_getElem? hj)))
  | agg hl h1 _ ih => simp only [AV.bel] at hb; exact .agg hl h1 fun j y hj => ih j y hj (AV.belL_get hb hj)
  | tup hl _ ih => simp only [AV.bel] at hb; exact .tup hl fun j y hj => ih j y hj (AV.belL_get hb hj)
  | fn hl hk _ _ ih1 ih2 => simp only [AV.bel, Bool.and_eq_true] at hb; exact .fn hl hk (fun j y hj => ih1 j y hj (AV.belL_get hb.1 hj)) (fun j y hj => ih2 j y hj (AV.belL_get hb.2 hj))
  | ifc _ ih => simp only [AV.bel] at hb; exact .ifc (ih hb)
  | mp h hL => simp only [AV.bel, decide_eq_true_eq] at hb; exact .mp hb hL
  | it h hL => simp only [AV.bel, decide_eq_true_eq] at hb; exact .it hb hL
  | any h => exact .any h
  | top => exact .top
end cut
theorem holds_bel {E : Env} {n id : Nat} {o : AO} (h : E.holds n id o) : o.bel n = true := by
  cases o with
  | dead => rfl
  | box cs =>
    obtain ⟨L, u, t, fz, h1, h2, h3, h4, h5, h6, h7, h8, h9⟩ := h
    exact AV.belL_of fun k y hk => (h9 k y hk).bel
  | arr z l => rfl
  | mapo es =>
    obtain ⟨L, u, clock, h1, h2, h3, h4, h5⟩ := h
    exact belE_of fun k y hk => ⟨(h5 k y hk).1.bel, (h5 k y hk).2.bel⟩
  | siter s p => rfl
theorem holds_cut {E : Env} {n k id : Nat} {o : AO} (h : E.holds n id o) (hb : o.bel k = true) : E.holds k id o := by
  cases o with
  | dead => trivial
  | box cs =>
    obtain ⟨L, u, t, fz, h1, h2, h3, h4, h5, h6, h7, h8, h9⟩ := h
    exact ⟨L, u, t, fz, h1, h2, h3, h4, h5, h6, h7, h8, fun j y hj => (h9 j y hj).cut (AV.belL_get hb hj)⟩
  | arr z l =>
    rcases h with h | ⟨L, u, t, fz, h1, h2, h3, h4, h5, h6, h7, h8, h9, h10⟩
    · exact .inl h
    · exact .inr ⟨L, u, t, fz, h1, h2, h3, h4, h5, h6, h7, h8, fun j y hj => (h9 j y hj).cut (AV.bel_ok (el_get h8 hj)), h10⟩
  | mapo es =>
    obtain ⟨L, u, clock, h1, h2, h3, h4, h5⟩ := h
    exact ⟨L, u, clock, h1, h2, h3, h4, fun j y hj => ⟨(h5 j y hj).1.cut (belE_get hb hj).1, (h5 j y hj).2.cut (belE_get hb hj).2⟩⟩
  | siter s p => exact h
theorem hm_cut {E : Env} {R G : List AO} (hm : HM E (R ++ G)) (hb : ∀ o ∈ R, o.bel R.length = true) : HM E R where
  obj := fun id o ho => holds_cut (hm.obj id o (by rw [List.getElem?_append_left (List.getElem?_eq_some_iff.1 ho).1]; exact ho)) (hb o (List.mem_of_getElem? ho))
  inj := fun i j oi oj Li Lj hij hi hj => hm.inj i j oi oj Li Lj hij (by rw [List.getElem?_append_left (List.getElem?_eq_some_iff.1 hi).1]; exact hi) (by rw [List.getElem?_append_left (List.getElem?_eq_some_iff.1 hj).1]; exact hj)
  disj := hm.disj
  bound := hm.bound
  sbound := hm.sbound
  sub := hm.sub
theorem ACall.drop {P : Program} {f : FuncId} {args : List AV} {H : List AO} {Post Post' : AV → List AO → Prop} (h : ACall P f args H Post)
    (hd : ∀ y Hr, Post y Hr → ∃ R G, Hr = R ++ G ∧ H.length ≤ R.length ∧ y.bel R.length = true ∧ (∀ o ∈ R, o.bel R.length = true) ∧ Post' y R) : ACall P f args H Post' :=
  ⟨h.1, fun E vs hm hl hv => (h.2 E vs hm hl hv).mono fun e w' ⟨v, y, H', E', h1, h2, h3, h4, h5, h6⟩ => by
    obtain ⟨R, G, rfl, hRl, hy, hR, hp⟩ := hd y H' h6
    exact ⟨v, y, R, E', h1, h2, h3.cut hy, hm_cut h4 hR, { h5 with num := hRl }, hp⟩⟩
def ext (ρ : List Nat) (n : Nat) (i : Nat) : Nat := if i < ρ.length then ρ.getD i 0 else n + (i - ρ.length)
theorem ext_lt {ρ : List Nat} {n i : Nat} (h : i < ρ.length) : ext ρ n i = ρ.getD i 0 := if_pos h
theorem ext_ge {ρ : List Nat} {n i : Nat} (h : ρ.length ≤ i) : ext ρ n i = n + (i - ρ.length) := if_neg (by omega)
def setAll : List AO → List Nat → List AO → List AO
  | H, [], _ => H
  | H, _, [] => H
  | H, i :: ρ, o :: l => setAll (H.set i o) ρ l
theorem setAll_len : ∀ (H : List AO) (ρ : List Nat) (l : List AO), (setAll H ρ l).length = H.length
  | H, [], l => by cases l <;> rfl
  | H, _ :: _, [] => rfl
  | H, i :: ρ, o :: l => by simp [setAll, setAll_len]
theorem setAll_ne : ∀ (H : List AO) (ρ : List Nat) (l : List AO) (i : Nat), i ∉ ρ → (setAll H ρ l)[i]? = H[i]?
  | H, [], l, i, _ => by cases l <;> rfl
  | H, _ :: _, [], i, _ => rfl
  | H, j :: ρ, o :: l, i, h => by
    simp only [List.mem_cons, not_or] at h
    rw [setAll, setAll_ne _ ρ l i h.2, List.getElem?_set_ne (by omega)]
theorem setAll_get : ∀ (H : List AO) (ρ : List Nat) (l : List AO) (k i : Nat) (o : AO), ρ.Nodup → ρ[k]? = some i → l[k]? = some o → i < H.length → (setAll H ρ l)[i]? = some o
  | H, [], l, k, i, o, _, h, _, _ => by simp at h
  | H, _ :: _, [], k, i, o, _, _, h, _ => by simp at h
  | H, j :: ρ, q :: l, 0, i, o, hnd, h1, h2, hi => by
    simp only [List.getElem?_cons_zero, Option.some.injEq] at h1 h2
    subst h1 h2
    rw [setAll, setAll_ne _ _ _ _ (List.nodup_cons.1 hnd).1, List.getElem?_set_self hi]
  | H, j :: ρ, q :: l, k + 1, i, o, hnd, h1, h2, hi => by
    rw [setAll]
    exact setAll_get _ ρ l k i o (List.nodup_cons.1 hnd).2 (by simpa using h1) (by simpa using h2) (by simpa using hi)
def spl (ρ : List Nat) (H Hr : List AO) : List AO := setAll H ρ ((Hr.take ρ.length).map (AO.ren (ext ρ H.length))) ++ (Hr.drop ρ.length).map (AO.ren (ext ρ H.length))
theorem spl_len {ρ : List Nat} {H Hr : List AO} (h : ρ.length ≤ Hr.length) : (spl ρ H Hr).length = H.length + (Hr.length - ρ.length) := by
  simp [spl, setAll_len]
theorem spl_new {ρ : List Nat} {H Hr : List AO} {j : Nat} {o : AO} (hj : Hr[ρ.length + j]? = some o) : (spl ρ H Hr)[H.length + j]? = some (o.ren (ext ρ H.length)) := by
  unfold spl
  rw [List.getElem?_append_right (by rw [setAll_len]; omega), setAll_len]
  rw [show H.length + j - H.length = j by omega, List.getElem?_map, List.getElem?_drop, hj]
  rfl
theorem spl_old {ρ : List Nat} {H Hr : List AO} {i : Nat} (hi : i < H.length) (h : i ∉ ρ) : (spl ρ H Hr)[i]? = H[i]? := by
  unfold spl
  rw [List.getElem?_append_left (by rw [setAll_len]; exact hi), setAll_ne _ _ _ _ h]
theorem spl_in {ρ : List Nat} {H Hr : List AO} {k i : Nat} {o : AO} (hnd : ρ.Nodup) (hk : ρ[k]? = some i) (ho : Hr[k]? = some o) (hi : i < H.length) : (spl ρ H Hr)[i]? = some (o.ren (ext ρ H.length)) := by
  have hkl := (List.getElem?_eq_some_iff.1 hk).1
  unfold spl
  rw [List.getElem?_append_left (by rw [setAll_len]; exact hi)]
  exact setAll_get H ρ _ k i _ hnd hk (by rw [List.getElem?_map, List.getElem?_take_of_lt hkl, ho]; rfl) hi
theorem spl_cases {ρ : List Nat} {H Hr : List AO} {i : Nat} {o : AO} (hnd : ρ.Nodup) (hlt : ∀ i ∈ ρ, i < H.length) (hl : ρ.length ≤ Hr.length) (h : (spl ρ H Hr)[i]? = some o) :
    (i < H.length ∧ i ∉ ρ ∧ H[i]? = some o) ∨ ∃ k q, Hr[k]? = some q ∧ i = ext ρ H.length k ∧ o = q.ren (ext ρ H.length) := by
  by_cases hi : i < H.length
  · by_cases hm : i ∈ ρ
    · obtain ⟨k, hk⟩ := List.mem_iff_getElem?.1 hm
      have hkl := (List.getElem?_eq_some_iff.1 hk).1
      have ho : Hr[k]? = some (Hr[k]'(by omega)) := List.getElem?_eq_getElem (by omega)
      rw [spl_in hnd hk ho hi] at h
      cases h
      exact .inr ⟨k, _, ho, by rw [ext_lt hkl, List.getD_eq_getElem?_getD, hk]; rfl, rfl⟩
    · rw [spl_old hi hm] at h
      exact .inl ⟨hi, hm, h⟩
  · have hlen := (List.getElem?_eq_some_iff.1 h).1
    rw [spl_len hl] at hlen
    have ho : Hr[ρ.length + (i - H.length)]? = some (Hr[ρ.length + (i - H.length)]'(by omega)) := List.getElem?_eq_getElem (by omega)
    have := spl_new (H := H) ho
    rw [show H.length + (i - H.length) = i by omega] at this
    rw [this] at h
    cases h
    exact .inr ⟨_, _, ho, by rw [ext_ge (by omega)]; omega, rfl⟩
section frame
variable {P : Program} {f : FuncId} {args : List AV} {Hc H : List AO} {Post : AV → List AO → Prop}
theorem ACallP.frame {PP : AV → List AO → Prop} (h : ACallP P f args Hc Post PP) (ρ : List Nat) (hlen : ρ.length = Hc.length) (hnd : ρ.Nodup) (hlt : ∀ i ∈ ρ, i < H.length)
    (hH : ∀ k o, Hc[k]? = some o → H[ρ.getD k 0]? = some (o.ren fun i => ρ.getD i 0) ∧ o.bel Hc.length = true) (hb : AV.belL Hc.length args = true) :
    ACallP P f (AV.renL (fun i => ρ.getD i 0) args) H (fun y' H' => ∃ y Hr, Post y Hr ∧ y' = y.ren (ext ρ H.length) ∧ H' = spl ρ H Hr) fun y' H' => ∃ y Hr, PP y Hr ∧ y' = y.ren (ext ρ H.length) ∧ H' = spl ρ H Hr := by
  refine ⟨h.1, fun E vs hm hl hv => ?_⟩
  rw [AV.renL_len] at hl
  -- the callee's surroundings
  let O1 : Nat → Prop := fun b => E.O b ∧ ∃ k L o, k < Hc.length ∧ E.μ (ρ.getD k 0) = some L ∧ Hc[k]? = some o ∧ o.live = true ∧ L.b = b
  let E1 : Env := ⟨E.w, E.S, fun k => E.μ (ρ.getD k 0), O1⟩
  have hinj : ∀ i j, i < Hc.length → j < Hc.length → ρ.getD i 0 = ρ.getD j 0 → i = j := fun i j hi hj e => by
    rw [List.getD_eq_getElem?_getD, List.getD_eq_getElem?_getD, List.getElem?_eq_getElem (by omega), List.getElem?_eq_getElem (by omega)] at e
    simp only [Option.getD_some] at e
    rcases Nat.lt_trichotomy i j with h | h | h
    · exact absurd e (List.pairwise_iff_getElem.1 hnd i j (by omega) (by omega) h)
    · exact h
    · exact absurd e.symm (List.pairwise_iff_getElem.1 hnd j i (by omega) (by omega) h)
  have hm1 : HM E1 Hc := by
    refine ⟨fun id o ho => ?_, fun i j oi oj Li Lj hij hi hj hli hlj hμi hμj => ?_, fun b hb tt hs => hm.disj b hb.1 tt hs, fun b hb => hm.bound b hb.1, hm.sbound, hm.sub⟩
    · obtain ⟨h1, h2⟩ := hH id o ho
      have hidl := (List.getElem?_eq_some_iff.1 ho).1
      have hob := hm.obj _ _ h1
      by_cases hlive : o.live = true
      · -- as in holds_unro, by a direct way
        have key : ∀ x y, E.VR H.length x (y.ren fun i => ρ.getD i 0) → y.bel Hc.length = true → E1.VR Hc.length x y := fun x y hv hb => VR.unren hv (fun _ _ h => h) y rfl hb fun _ _ => rfl
        have hO : ∀ L, E.μ (ρ.getD id 0) = some L → E.O L.b → O1 L.b := fun L hL hO => ⟨hO, id, L, o, hidl, hL, ho, hlive, rfl⟩
        cases o with
        | dead => trivial
        | box cs =>
          obtain ⟨L, u, t, fz, g1, g2, g3, g4, g5, g6, g7, g8, g9⟩ := hob
          rw [AV.renL_len] at g4
          refine ⟨L, u, t, fz, g1, hO L g1 g2, g3, g4, g5, g6, g7, fun a ha => ?_, fun k y hk => key _ _ (g9 k _ (by rw [AV.renL_get, hk]; rfl)) (AV.belL_get h2 hk)⟩
          obtain ⟨k, hk⟩ := List.mem_iff_getElem?.1 ha
          rw [← AV.one_ren (ρ := fun i => ρ.getD i 0)]
          exact g8 _ (List.mem_of_getElem? (i := k) (by rw [AV.renL_get, hk]; rfl))
        | arr z l =>
          rcases hob with ⟨g1, g2⟩ | ⟨L, u, t, fz, g1, g2, g3, g4, g5, g6, g7, g8, g9, g10⟩
          · exact .inl ⟨g1, g2⟩
          · refine .inr ⟨L, u, t, fz, g1, hO L g1 g2, g3, g4, g5, g6, g7, g8, fun k y hk => ?_, g10⟩
            have hok := el_get g8 hk
            exact key _ _ (by rw [AV.ren_ok hok]; exact g9 k y hk) (AV.bel_ok hok)
        | mapo es =>
          obtain ⟨L, u, clock, g1, g2, g3, g4, g5⟩ := hob
          rw [renE_len] at g4
          refine ⟨L, u, clock, g1, hO L g1 g2, g3, g4, fun k y hk => ?_⟩
          have hq := belE_get h2 hk
          have := g5 k _ (by rw [renE_get, hk]; rfl)
          exact ⟨key _ _ this.1 hq.1, key _ _ this.2 hq.2⟩
        | siter s pos =>
          obtain ⟨L, sb, g1, g2, g3, g4⟩ := hob
          exact ⟨L, sb, g1, hO L g1 g2, g3, g4⟩
      · cases o <;> simp [AO.live] at hlive
        trivial
    · refine hm.inj (ρ.getD i 0) (ρ.getD j 0) _ _ Li Lj (fun e => hij (hinj i j (List.getElem?_eq_some_iff.1 hi).1 (List.getElem?_eq_some_iff.1 hj).1 e)) (hH i oi hi).1 (hH j oj hj).1 ?_ ?_ hμi hμj
      · rw [AO.live_ren]; exact hli
      · rw [AO.live_ren]; exact hlj
  have hv1 : ∀ k y, args[k]? = some y → E1.VR Hc.length (vs.getD k undef) y := fun k y hk =>
    VR.unren (hv k _ (by rw [AV.renL_get, hk]; rfl)) (fun _ _ h => h) y rfl (AV.belL_get hb hk) fun _ _ => rfl
  have lift : ∀ (w' : World) (v : Value) (y : AV) (Hr : List AO) (E2 : Env), E2.w = w' → E2.VR Hr.length v y → HM E2 Hr → Trans E1 Hc.length E2 Hr.length → ∃ E3 : Env, E3.w = w' ∧ E3.VR (spl ρ H Hr).length v (y.ren (ext ρ H.length)) ∧ HM E3 (spl ρ H Hr) ∧ Trans E H.length E3 (spl ρ H Hr).length := by
   intro w' v y Hr E2 h2 h3 h4 h5
   have hrl : ρ.length ≤ Hr.length := by rw [hlen]; exact h5.num
   -- the caller's, behind the call
   let E3 : Env := ⟨E2.w, fun t b => E.S t b ∨ (E2.S t b ∧ (E.w.heap.size ≤ b ∨ O1 b)), fun i => if i < H.length then E.μ i else E2.μ (ρ.length + (i - H.length)), fun b => (E.O b ∧ ¬ O1 b) ∨ E2.O b⟩
   have hS2 : ∀ t b, E2.S t b → E3.S t b := fun t b hs => by
     rcases h5.born t b hs with g | g | g
     · exact .inl g
     · exact .inr ⟨hs, .inr g⟩
     · exact .inr ⟨hs, .inl g⟩
   have hO2 : ∀ b, E2.O b → E3.O b := fun b hb => .inr hb
   have hkeep : ∀ b, b < E.w.heap.size → ¬ O1 b → E2.w.heap[b]? = E.w.heap[b]? := fun b hb ho => h5.keep b hb ho
   have hmu : ∀ k, k < Hr.length → ext ρ H.length k < H.length + (Hr.length - ρ.length) ∧ E3.μ (ext ρ H.length k) = E2.μ k := fun k hk => by
     by_cases hkl : k < ρ.length
     · rw [ext_lt hkl]
       have hin : ρ.getD k 0 < H.length := hlt _ (by rw [List.getD_eq_getElem?_getD, List.getElem?_eq_getElem hkl]; exact List.getElem_mem hkl)
       refine ⟨by omega, ?_⟩
       show (if ρ.getD k 0 < H.length then E.μ (ρ.getD k 0) else _) = _
       rw [if_pos hin]
       exact (h5.mu k (by omega)).symm
     · rw [ext_ge (by omega)]
       refine ⟨by omega, ?_⟩
       show (if H.length + (k - ρ.length) < H.length then _ else E2.μ (ρ.length + (H.length + (k - ρ.length) - H.length))) = _
       rw [if_neg (by omega)]
       congr 1
       omega
   have hnl : (spl ρ H Hr).length = H.length + (Hr.length - ρ.length) := spl_len hrl
   have vnew : ∀ x y, E2.VR Hr.length x y → E3.VR (spl ρ H Hr).length x (y.ren (ext ρ H.length)) := fun x y hv => by
     rw [hnl]
     exact VR.ren (m := Hr.length) hv hS2 hv.bel fun id hid _ => hmu id hid
   have t3 : Trans E H.length E3 (spl ρ H Hr).length := by
     refine ⟨h5.os, h5.tape, h5.output, h5.size, fun b hb ho => hkeep b hb fun g => ho g.1, fun _ _ h => .inl h, fun t b hs => ?_, fun b hb => ?_, fun id hi => if_pos hi, by rw [hnl]; omega⟩
     · rcases hs with g | ⟨_, g | g⟩
       · exact .inl g
       · exact .inr (.inr g)
       · exact .inr (.inl g.1)
     · rcases hb with g | g
       · exact .inl g.1
       · rcases h5.owns b g with g | g
         · exact .inl g.1
         · exact .inr g
   have vold : ∀ x y, E.VR H.length x y → E3.VR (spl ρ H Hr).length x y := fun x y hv => by
     refine VR.mono hv (fun _ _ h => .inl h) (fun t b o v hs hc => ?_) (fun id hi => if_pos hi) (by rw [hnl]; omega)
     rw [cell_of_heap (hkeep b (hm.sbound t b hs) fun g => hm.disj b g.1 t hs)]
     exact hc
   -- old objects lie apart from those that were handed in
   have apart : ∀ i o L, i ∉ ρ → H[i]? = some o → o.live = true → E.μ i = some L → ¬ O1 L.b := fun i o L hi ho hl hL ⟨_, k, L', q, hk, hL', hq, hql, hbb⟩ => by
     have hin : ρ.getD k 0 ∈ ρ := by rw [List.getD_eq_getElem?_getD, List.getElem?_eq_getElem (by omega)]; exact List.getElem_mem (by omega)
     exact hm.inj (ρ.getD k 0) i _ o L' L (fun e => hi (e ▸ hin)) (hH k q hq).1 ho (by rw [AO.live_ren]; exact hql) hl hL' hL hbb
   have hm3 : HM E3 (spl ρ H Hr) := by
     refine ⟨fun id o ho => ?_, fun i j oi oj Li Lj hij hi hj hli hlj hμi hμj => ?_, fun b hb tt hs => ?_, fun b hb => ?_, fun tt b hs => ?_, fun b hs => ?_⟩
     · rcases spl_cases hnd hlt hrl ho with ⟨g1, g2, g3⟩ | ⟨k, q, g1, rfl, rfl⟩
       · by_cases hlive : o.live = true
         · exact Env.holds_mono (hm.obj id o g3) (if_pos g1) (fun L hL hO => .inl ⟨hO, apart id o L g2 g3 hlive hL⟩) (fun L hL hO => hkeep _ (hm.bound _ hO) (apart id o L g2 g3 hlive hL)) vold
         · cases o <;> simp [AO.live] at hlive
           trivial
       · have hkl := (List.getElem?_eq_some_iff.1 g1).1
         exact holds_ren (E := E2) (m := Hr.length) (h4.obj k q g1) (holds_bel (h4.obj k q g1)) rfl (hmu k hkl).2 (fun L _ hO => hO2 _ hO) fun x y hv _ => vnew x y hv
     · have cls : ∀ i oi Li, (spl ρ H Hr)[i]? = some oi → oi.live = true → E3.μ i = some Li → (i < H.length ∧ i ∉ ρ ∧ H[i]? = some oi ∧ E.μ i = some Li ∧ ¬ O1 Li.b ∧ E.O Li.b) ∨ ∃ k q, Hr[k]? = some q ∧ i = ext ρ H.length k ∧ q.live = true ∧ E2.μ k = some Li ∧ E2.O Li.b := by
         intro i oi Li hi hli hμi
         rcases spl_cases hnd hlt hrl hi with ⟨g1, g2, g3⟩ | ⟨k, q, g1, rfl, rfl⟩
         · have hL : E.μ i = some Li := (if_pos g1 : E3.μ i = E.μ i).symm.trans hμi
           exact .inl ⟨g1, g2, g3, hL, apart i oi Li g2 g3 hli hL, Env.holds_loc (hm.obj i oi g3) Li hL hli⟩
         · rw [AO.live_ren] at hli
           have hkl := (List.getElem?_eq_some_iff.1 g1).1
           have hL : E2.μ k = some Li := (hmu k hkl).2.symm.trans hμi
           exact .inr ⟨k, q, g1, rfl, hli, hL, Env.holds_loc (h4.obj k q g1) Li hL hli⟩
       have mix : ∀ b, E.O b → ¬ O1 b → E2.O b → False := fun b g1 g2 g3 => by
         rcases h5.owns b g3 with g | g
         · exact g2 g
         · have := hm.bound b g1
           change E.w.heap.size ≤ b at g
           omega
       rcases cls i oi Li hi hli hμi with ⟨a1, a2, a3, a4, a5, a6⟩ | ⟨k, q, a1, rfl, a3, a4, a5⟩ <;> rcases cls j oj Lj hj hlj hμj with ⟨b1, b2, b3, b4, b5, b6⟩ | ⟨k', q', b1, rfl, b3, b4, b5⟩
       · exact hm.inj i j oi oj Li Lj hij a3 b3 hli hlj a4 b4
       · exact fun e => mix Li.b a6 a5 (e ▸ b5)
       · exact fun e => mix Lj.b b6 b5 (e ▸ a5)
       · exact h4.inj k k' q q' Li Lj (fun e => hij (by rw [e])) a1 b1 a3 b3 a4 b4
     · rcases hb with ⟨g1, g2⟩ | g
       · rcases hs with s | ⟨_, s | s⟩
         · exact hm.disj b g1 tt s
         · have := hm.bound b g1; omega
         · exact g2 s
       · rcases hs with s | ⟨s, _⟩
         · rcases h5.owns b g with g | g
           · exact hm.disj b g.1 tt s
           · have := hm.sbound tt b s
             change E.w.heap.size ≤ b at g
             omega
         · exact h4.disj b g tt s
     · rcases hb with ⟨g1, _⟩ | g
       · exact Nat.lt_of_lt_of_le (hm.bound b g1) h5.size
       · exact h4.bound b g
     · rcases hs with s | ⟨s, _⟩
       · exact Nat.lt_of_lt_of_le (hm.sbound tt b s) h5.size
       · exact h4.sbound tt b s
     · rcases hs with s | ⟨s, g⟩
       · exact .inl (hm.sub b s)
       · exact .inr ⟨h4.sub b s, g⟩
   exact ⟨E3, h2, vnew v y h3, hm3, t3⟩
  refine (h.2 E1 vs hm1 hl hv1).mono fun e w' q => ?_
  rcases q with ⟨v, y, Hr, E2, h1, h2, h3, h4, h5, h6⟩ | ⟨v, y, Hr, E2, h1, h2, h3, h4, h5, h6⟩
  · obtain ⟨E3, k1, k2, k3, k4⟩ := lift w' v y Hr E2 h2 h3 h4 h5
    exact .inl ⟨v, _, _, E3, h1, k1, k2, k3, k4, y, Hr, h6, rfl, rfl⟩
  · obtain ⟨E3, k1, k2, k3, k4⟩ := lift w' v y Hr E2 h2 h3 h4 h5
    exact .inr ⟨v, _, _, E3, h1, k1, k2, k3, k4, y, Hr, h6, rfl, rfl⟩
theorem ACall.frame (h : ACall P f args Hc Post) (ρ : List Nat) (hlen : ρ.length = Hc.length) (hnd : ρ.Nodup) (hlt : ∀ i ∈ ρ, i < H.length)
    (hH : ∀ k o, Hc[k]? = some o → H[ρ.getD k 0]? = some (o.ren fun i => ρ.getD i 0) ∧ o.bel Hc.length = true) (hb : AV.belL Hc.length args = true) :
    ACall P f (AV.renL (fun i => ρ.getD i 0) args) H fun y' H' => ∃ y Hr, Post y Hr ∧ y' = y.ren (ext ρ H.length) ∧ H' = spl ρ H Hr :=
  (ACallP.frame (PP := fun _ _ => False) (h.to fun _ _ h => h) ρ hlen hnd hlt hH hb).never fun _ _ ⟨_, _, h, _⟩ => h
theorem ACallP.drop {PP Post' PP' : AV → List AO → Prop} (h : ACallP P f args H Post PP)
    (hd : ∀ y Hr, Post y Hr → ∃ R G, Hr = R ++ G ∧ H.length ≤ R.length ∧ y.bel R.length = true ∧ (∀ o ∈ R, o.bel R.length = true) ∧ Post' y R)
    (hp : ∀ y Hr, PP y Hr → ∃ R G, Hr = R ++ G ∧ H.length ≤ R.length ∧ y.bel R.length = true ∧ (∀ o ∈ R, o.bel R.length = true) ∧ PP' y R) : ACallP P f args H Post' PP' :=
  ⟨h.1, fun E vs hm hl hv => (h.2 E vs hm hl hv).mono fun e w' q => by
    rcases q with ⟨v, y, H', E', h1, h2, h3, h4, h5, h6⟩ | ⟨v, y, H', E', h1, h2, h3, h4, h5, h6⟩
    · obtain ⟨R, G, rfl, hRl, hy, hR, hq⟩ := hd y H' h6
      exact .inl ⟨v, y, R, E', h1, h2, h3.cut hy, hm_cut h4 hR, { h5 with num := hRl }, hq⟩
    · obtain ⟨R, G, rfl, hRl, hy, hR, hq⟩ := hp y H' h6
      exact .inr ⟨v, y, R, E', h1, h2, h3.cut hy, hm_cut h4 hR, { h5 with num := hRl }, hq⟩⟩
end frame
end Go.Ab
namespace Go.Ab
open Go
def up (n : Nat) (i : Nat) : Nat := n + i
theorem ext_nil {n : Nat} : ext [] n = up n := by funext i; simp [ext, up]
theorem ACall.new {P : Program} {f : FuncId} {args : List AV} {H : List AO} {Post : AV → List AO → Prop} (h : ACall P f args [] Post) (hb : AV.belL 0 args = true) (ha : AV.renL (fun _ => 0) args = args) :
    ACall P f args H fun y' H' => ∃ y Hr, Post y Hr ∧ y' = y.ren (up H.length) ∧ H' = H ++ Hr.map (AO.ren (up H.length)) := by
  have key := h.frame (H := H) [] rfl List.nodup_nil (by simp) (by simp) hb
  have e : AV.renL (fun i => ([] : List Nat).getD i 0) args = args := by simpa using ha
  rw [e] at key
  refine key.mono fun y' G ⟨y, Hr, h1, h2, h3⟩ => ⟨y, Hr, h1, by rw [h2, ext_nil], ?_⟩
  rw [h3]
  simp [spl, setAll, ext_nil]
theorem sub_result {E : Env} {n0 : Nat} {H H1 : List AO} {v : Value} {y y1 : AV} {E0 : Env} (hm : HM E H) (hv : E.VR H.length v y) (t : Trans E0 n0 E H.length) (h : Sub n0 ⟨[(0, y)], H⟩ ⟨[(0, y1)], H1⟩) :
    ∃ E1 : Env, E1.w = E.w ∧ E1.VR H1.length v y1 ∧ HM E1 H1 ∧ Trans E0 n0 E1 H1.length := by
  have m : Match ⟨1, []⟩ E (Regs.get [(0, y)]) H { tmps := #[v], defers := [] } := ⟨hm, fun q => by
    by_cases hq : q = 0
    · subst hq; exact hv
    · have : Regs.get [(0, y)] q = .top := by simp [Regs.get, Ne.symm hq]
      rw [this]; exact .top, rfl, rfl⟩
  obtain ⟨E1, k1, k2, k3⟩ := sub_sound h (Nat.le_refl _) t.num m
  refine ⟨E1, k1, ?_, k2.hm, t.trans' k3⟩
  have := k2.regs 0
  simpa [Regs.get] using this
theorem ACallP.sub {P : Program} {f : FuncId} {args : List AV} {H : List AO} {Post PP Post' PP' : AV → List AO → Prop} (h : ACallP P f args H Post PP)
    (hk : ∀ y G, Post y G → ∃ y1 G1, Sub H.length ⟨[(0, y)], G⟩ ⟨[(0, y1)], G1⟩ ∧ Post' y1 G1) (hp : ∀ y G, PP y G → ∃ y1 G1, Sub H.length ⟨[(0, y)], G⟩ ⟨[(0, y1)], G1⟩ ∧ PP' y1 G1) : ACallP P f args H Post' PP' :=
  ⟨h.1, fun E vs hm hl hv => (h.2 E vs hm hl hv).mono fun e w' q => by
    rcases q with ⟨v, y, H', E', h1, h2, h3, h4, h5, h6⟩ | ⟨v, y, H', E', h1, h2, h3, h4, h5, h6⟩
    · obtain ⟨y1, G1, hs, hq⟩ := hk _ _ h6
      obtain ⟨E1, k1, k2, k3, k4⟩ := sub_result h4 h3 h5 hs
      exact .inl ⟨v, y1, G1, E1, h1, k1.trans h2, k2, k3, k4, hq⟩
    · obtain ⟨y1, G1, hs, hq⟩ := hp _ _ h6
      obtain ⟨E1, k1, k2, k3, k4⟩ := sub_result h4 h3 h5 hs
      exact .inr ⟨v, y1, G1, E1, h1, k1.trans h2, k2, k3, k4, hq⟩⟩
theorem ACall.sub {P : Program} {f : FuncId} {args : List AV} {H : List AO} {Post Post' : AV → List AO → Prop} (h : ACall P f args H Post)
    (hk : ∀ y G, Post y G → ∃ y1 G1, Sub H.length ⟨[(0, y)], G⟩ ⟨[(0, y1)], G1⟩ ∧ Post' y1 G1) : ACall P f args H Post' :=
  ((h.to (PP := fun _ _ => False) fun _ _ h => h).sub hk fun _ _ h => h.elim).never fun _ _ h => h
end Go.Ab
namespace Go.Ab
open Go
set_option linter.unusedSimpArgs false
set_option linter.unusedVariables false
def modeV (E : Env) (n : Nat) (x : Option AV) (u : FrameMode) : Prop :=
  match x with
  | none => u = .returning
  | some y => ∃ v, u = .panicking [⟨v, false, false⟩] ∧ E.VR n v y
def DCall (P : Program) (g : FuncId) (args : List AV) (x : Option AV) (H : List AO) (Post : List AO → Prop) : Prop :=
  callOk P g = true ∧ ∀ (E : Env) (vs : List Value) (u : FrameMode), HM E H → vs.length = args.length → (∀ k y, args[k]? = some y → E.VR H.length (vs.getD k undef) y) → modeV E H.length x u →
    CallsD P g vs.toArray u E.w fun e u' w' => ∃ v H' E', e = .returned v ∧ settle u' = .returning ∧ E'.w = w' ∧ HM E' H' ∧ Trans E H.length E' H'.length ∧ Post H'
theorem DCall.mono {P : Program} {g : FuncId} {args : List AV} {x : Option AV} {H : List AO} {Post Post' : List AO → Prop} (h : DCall P g args x H Post) (hk : ∀ G, Post G → Post' G) : DCall P g args x H Post' :=
  ⟨h.1, fun E vs u a b c d => (h.2 E vs u a b c d).mono fun e u' w' ⟨v, H', E', k1, k2, k3, k4, k5, k6⟩ => ⟨v, H', E', k1, k2, k3, k4, k5, hk _ k6⟩⟩
section
variable {P : Program} {ops : Array Oper} {Q : Exit → Act → List Frame → World → Prop} {a : Act} {cs : List Frame} {w : World}
end
theorem init_match {E : Env} {H : List AO} {args : List AV} {vs : List Value} {n : Nat} (hm : HM E H) (hl : vs.length = args.length) (hn : args.length ≤ n) (hv : ∀ k y, args[k]? = some y → E.VR H.length (vs.getD k undef) y) :
    Match ⟨n, []⟩ E (initR 0 args).get H { tmps := vs.toArray ++ Array.replicate (n - vs.toArray.size) undef, defers := [] } := by
  refine ⟨hm, fun t => ?_, by simp; omega, rfl⟩
  simp only
  rw [initR_get, if_pos (Nat.zero_le t), Nat.sub_zero]
  by_cases ht : t < args.length
  · have hx := hv t _ (List.getElem?_eq_getElem ht)
    have e1 : (vs.toArray ++ Array.replicate (n - vs.toArray.size) undef).getD t undef = vs.getD t undef := by
      rw [Array.getD_eq_getD_getElem?, Array.getElem?_append_left (by simp; omega), List.getD_eq_getElem?_getD]
      simp
    rw [e1, List.getD_eq_getElem?_getD (l := args), List.getElem?_eq_getElem ht]
    exact hx
  · rw [List.getD_eq_getElem?_getD, List.getElem?_eq_none (by omega)]
    exact .top
end Go.Ab
namespace Go.Ab
open Go
set_option linter.unusedSimpArgs false
set_option linter.unusedVariables false
inductive RV where
  | tm (t : Nat)
  | ce (t : Nat) (T : TypeId) (n : Nat) (agg : Bool)
def RV.var : RV → ResultVar
  | .tm t => .tmp t
  | .ce t T _ _ => .cell t T
def RV.okL (P : Program) : List RV → Prop
  | [] => True
  | .tm _ :: l => RV.okL P l
  | .ce t T n agg :: l => copRW P ⟨none, .load T (.tmp t), 0, "", #[], none⟩ = some (.ld n agg (.tmp t)) ∧ RV.okL P l
def resK (H : List AO) (r : Nat → AV) : List RV → (List AV → Prop) → Prop
  | [], K => K []
  | .tm t :: l, K => resK H r l fun ys => K (r t :: ys)
  | .ce t T n agg :: l, K => ldK n agg H (r t) fun y => resK H r l fun ys => K (y :: ys)
def oneL (ys : List AV) : AV :=
  match ys with
  | [y] => y
  | l => .tup l
def retR (rs : List RV) (Post : AV → List AO → Prop) : AE → St → Prop
  | .exit _, _ => False
  | .pan _, _ => False
  | _, s => resK s.H s.r.get rs fun ys => Post (oneL ys) s.H
theorem retR_ret {rs : List RV} {Post : AV → List AO → Prop} {s : St} : retR rs Post .ret s = resK s.H s.r.get rs fun ys => Post (oneL ys) s.H := rfl
theorem retR_normal {rs : List RV} {Post : AV → List AO → Prop} {s : St} : retR rs Post .normal s = resK s.H s.r.get rs fun ys => Post (oneL ys) s.H := rfl
theorem resK_nil {H : List AO} {r : Nat → AV} {K : List AV → Prop} : resK H r [] K = K [] := rfl
theorem resK_t {H : List AO} {r : Regs} {t : Nat} {l : List RV} {K : List AV → Prop} : resK H r.get (.tm t :: l) K = resK H r.get l fun ys => K (r.get t :: ys) := rfl
theorem resK_c {H : List AO} {r : Regs} {t n : Nat} {T : TypeId} {agg : Bool} {l : List RV} {K : List AV → Prop} : resK H r.get (.ce t T n agg :: l) K = ldK n agg H (r.get t) fun y => resK H r.get l fun ys => K (y :: ys) := rfl
theorem oneL_one {y : AV} : oneL [y] = y := rfl
theorem oneL_two {x y : AV} {l : List AV} : oneL (x :: y :: l) = .tup (x :: y :: l) := rfl
def fRes (tmps : Array Value) : ResultVar → Sem Value
  | .tmp t => pure (tmps.getD t undef)
  | .cell t type => do loadVar type (← asAddr (tmps.getD t undef))
theorem results_eq {fn : Func} {tmps : Array Value} : results fn tmps = (do
    let vs ← fn.results.mapM (fRes tmps)
    if h : vs.size = 1 then pure vs[0] else pure (.tuple vs)) := by
  unfold results
  congr 1
  funext vs
  split <;> rfl
theorem cell_run {P : Program} {E : Env} {H : List AO} {a : Act} {r : Regs} {t n : Nat} {T : TypeId} {agg : Bool} {K : AV → Prop} (hc : copRW P ⟨none, .load T (.tmp t), 0, "", #[], none⟩ = some (.ld n agg (.tmp t))) (hm : HM E H) (hv : ∀ q, E.VR H.length (a.tmps.getD q undef) (r.get q))
    (h : ldK n agg H (r.get t) K) : ∃ v y, (fRes a.tmps (.cell t T)).run P E.w = .ok v E.w ∧ E.VR H.length v y ∧ K y := by
  have m : Match ⟨a.tmps.size, a.defers⟩ E r.get H a := ⟨hm, hv, rfl, rfl⟩
  have hl : readK (.ld n agg (.tmp t)) (Ab.ev r.get) H K := by
    have e := opK_ld (P := P) (n := n) (agg := agg) (x := .tmp t) (e := Ab.ev r.get) (H := H) (K := fun y _ => K y) (Kp := fun _ _ => False)
    show opK P (.ld n agg (.tmp t)) (Ab.ev r.get) H (fun y _ => K y) fun _ _ => False
    rw [e]
    exact h
  obtain ⟨v, y, hr, hvr, hk⟩ := (rw_sound hc m).1 hl
  have hx := hv t
  have hnt : ∃ A, a.tmps.getD t undef = .pointer (some A) := by
    generalize hrt : r.get t = rt at hx h
    cases rt <;> simp only [ldK] at h
    case ref id i o => obtain ⟨L, _, _, hp⟩ := hx.ref_inv; exact ⟨_, hp⟩
    case ip tt cs =>
      generalize a.tmps.getD t undef = u at hx ⊢
      cases hx
      exact ⟨_, rfl⟩
  obtain ⟨A, hp⟩ := hnt
  refine ⟨v, y, ?_, hvr, hk⟩
  have e1 : a.eval (.tmp t) = a.tmps.getD t undef := rfl
  simp only [execOp, e1, hp, Instr.loadAt, Instr.sureAddr, pure_bind, Sem.run_bind] at hr
  generalize hq : (loadVar T A).run P E.w = q at hr
  have hq2 : q = .ok v E.w := by
    cases q with
    | ok v' w' => simpa using hr
    | halt => simp at hr
  simp only [fRes, hp, asAddr, pure_bind, hq, hq2]
theorem resL_run {P : Program} {E : Env} {H : List AO} {a : Act} {r : Regs} (hm : HM E H) (hv : ∀ q, E.VR H.length (a.tmps.getD q undef) (r.get q)) : ∀ (rs : List RV) (K : List AV → Prop), RV.okL P rs → resK H r.get rs K →
    ∃ vs ys, (List.mapM (fRes a.tmps) (rs.map RV.var)).run P E.w = .ok vs E.w ∧ vs.length = ys.length ∧ (∀ k y, ys[k]? = some y → E.VR H.length (vs.getD k undef) y) ∧ K ys
  | [], K, _, h => ⟨[], [], by simp, rfl, fun k y hk => by simp at hk, h⟩
  | .tm t :: l, K, ho, h => by
    obtain ⟨vs, ys, h1, h2, h3, h4⟩ := resL_run hm hv l _ ho h
    refine ⟨a.tmps.getD t undef :: vs, r.get t :: ys, ?_, by simp [h2], fun k y hk => ?_, h4⟩
    · rw [List.map_cons, List.mapM_cons]
      simp only [RV.var, fRes, pure_bind, Sem.run_bind]
      have h1' : (List.mapM (fRes a.tmps) (l.map RV.var)).run P E.w = .ok vs E.w := h1
      rw [h1', Result.andThen_ok, Sem.run_pure]
    · cases k with
      | zero => simp at hk; subst hk; exact hv t
      | succ k => simpa using h3 k y (by simpa using hk)
  | .ce t T n agg :: l, K, ho, h => by
    obtain ⟨v, y, g1, g2, g3⟩ := cell_run (a := a) ho.1 hm hv h
    obtain ⟨vs, ys, h1, h2, h3, h4⟩ := resL_run hm hv l _ ho.2 g3
    refine ⟨v :: vs, y :: ys, ?_, by simp [h2], fun k y' hk => ?_, h4⟩
    · rw [List.map_cons, List.mapM_cons]
      simp only [Sem.run_bind]
      have g1' : (fRes a.tmps (RV.ce t T n agg).var).run P E.w = .ok v E.w := g1
      rw [g1', Result.andThen_ok, h1, Result.andThen_ok, Sem.run_pure]
    · cases k with
      | zero => simp at hk; subst hk; exact g2
      | succ k => simpa using h3 k y' (by simpa using hk)
theorem res_ok {P : Program} {fn : Func} {rs : List RV} (hr : fn.results = (rs.map RV.var).toArray) (ho : RV.okL P rs) {E : Env} {H : List AO} {a : Act} {r : Regs} (hm : HM E H) (hv : ∀ q, E.VR H.length (a.tmps.getD q undef) (r.get q)) {K : AV → Prop}
    (h : resK H r.get rs fun ys => K (oneL ys)) : ∃ v y, (results fn a.tmps).run P E.w = .ok v E.w ∧ E.VR H.length v y ∧ K y := by
  obtain ⟨vs, ys, h1, h2, h3, h4⟩ := resL_run hm hv rs _ ho h
  refine ⟨if h : vs.length = 1 then vs[0] else .tuple vs.toArray, oneL ys, ?_, ?_, h4⟩
  · rw [results_eq, hr, List.mapM_toArray]
    simp only [map_eq_pure_bind, bind_assoc, Sem.run_bind, h1, Result.andThen_ok, pure_bind, List.size_toArray]
    split <;> simp
  · match vs, ys, h2, h3 with
    | [], [], _, _ => exact .tup (vs := []) rfl (fun k y hk => by simp at hk)
    | [v], [y], _, h3 => simpa [oneL] using h3 0 y rfl
    | v :: u :: l, y :: z :: m, h2, h3 =>
      rw [dif_neg (by simp)]
      exact .tup h2 h3
structure FnIsR (P : Program) (f : FuncId) (cc : CC) (rs : List RV) (N : Nat) : Prop where
  mix : P.follows .mixedOrders = true
  is : ∃ fn body, P.funcs[f]? = some fn ∧ fn.body = some body ∧ (fn.name == "runtime.NumGoroutine") = false ∧ comp P body = some cc.bare ∧ cc.fits N = true ∧ fn.ntmps = N ∧ fn.results = (rs.map RV.var).toArray
  ok : RV.okL P rs
theorem acallR_at {P : Program} {f : FuncId} {cc : CC} {rs : List RV} {N : Nat} {args : List AV} {H : List AO} {Post : AV → List AO → Prop} (hf : FnIsR P f cc rs N) (hn : args.length ≤ N) (hb : cc.base H.length = true)
    (h : aw P cc (retR rs Post) ⟨initR 0 args, H⟩) : ACall P f args H Post := by
  obtain ⟨hmix, ⟨fn, body, h1, h2, h3, h4, h5, h6, h7⟩, hok⟩ := hf
  refine ⟨by simp [callOk, h1, h2, h3], fun E vs hm hl hv => ?_⟩
  refine calls_of_wp h1 h2 ?_
  refine code_sound (N := ⟨N, []⟩) (m0 := H.length) hmix body cc _ _ E _ _ h4 h5 hb (Nat.le_refl _) h (h6 ▸ init_match hm hl (by omega) hv) ?_
  intro e v0 a' E' s' m t hv0 q
  have fin : resK s'.H s'.r.get rs (fun ys => Post (oneL ys) s'.H) → a'.defers = [] ∧ ∃ v, (results fn a'.tmps).run P E'.w = .ok v E'.w ∧ ∃ v' y H' E'', Ending.returned v = .returned v' ∧ E''.w = E'.w ∧ E''.VR H'.length v' y ∧ HM E'' H' ∧ Trans E H.length E'' H'.length ∧ Post y H' := fun q => by
    obtain ⟨v, y, g1, g2, g3⟩ := res_ok (K := fun y => Post y s'.H) h7 hok m.hm m.regs q
    exact ⟨m.defers, v, g1, v, y, s'.H, E', rfl, rfl, g2, m.hm, t, g3⟩
  cases e with
  | normal => exact fin q
  | ret => exact fin q
  | exit id => exact q.elim
  | pan x => exact q.elim
theorem acallR_of {P : Program} {f : FuncId} {cc : CC} {rs : List RV} {N : Nat} {args : List AV} {Post : AV → List AO → Prop} (hf : FnIsR P f cc rs N) (hn : args.length ≤ N)
    (h : aw P cc (retR rs Post) ⟨initR 0 args, []⟩) : ACall P f args [] Post := acallR_at hf hn cc.base_zero h
def Wk2 (r y : AV) : Prop := Wk1 r y ∨ ∃ cs ds, r = .agg cs ∧ y = .agg ds ∧ WkL cs ds
def WkT : List AV → List AV → Prop
  | [], [] => True
  | r :: rs, y :: ys => Wk2 r y ∧ WkT rs ys
  | _, _ => False
def Wk3 (r y : AV) : Prop := Wk2 r y ∨ ∃ rs ys, r = .tup rs ∧ y = .tup ys ∧ WkT rs ys
theorem Wk1.one {r y : AV} (h : Wk1 r y) (hr : r.one = true) : y.one = true := by
  rcases h with rfl | ⟨rfl, t, z, rfl⟩
  · exact hr
  · rfl
theorem Wk2.vr {r y : AV} (h : Wk2 r y) {E : Env} {n : Nat} {v : Value} (hv : E.VR n v r) : E.VR n v y := by
  rcases h with h | ⟨cs, ds, rfl, rfl, h⟩
  · exact h.vr hv
  · cases hv with
    | agg hl h1 hk =>
      refine .agg (hl.trans h.len) (fun a ha => ?_) fun k y hy => ?_
      · obtain ⟨k, hk⟩ := List.mem_iff_getElem?.1 ha
        obtain ⟨r, g1, g2⟩ := h.get k a hk
        exact g2.one (h1 r (List.mem_of_getElem? g1))
      · obtain ⟨r, g1, g2⟩ := h.get k y hy
        exact g2.vr (hk k r g1)
theorem WkT.len : ∀ {rs ys : List AV}, WkT rs ys → rs.length = ys.length
  | [], [], _ => rfl
  | r :: rs, y :: ys, h => by simp [WkT.len h.2]
  | [], y :: ys, h => h.elim
  | r :: rs, [], h => h.elim
theorem WkT.get : ∀ {rs ys : List AV}, WkT rs ys → ∀ (k : Nat) (y : AV), ys[k]? = some y → ∃ r, rs[k]? = some r ∧ Wk2 r y
  | [], [], _, k, y, h => by simp at h
  | r :: rs, q :: ys, h, 0, y, hk => by simp at hk; subst hk; exact ⟨r, rfl, h.1⟩
  | r :: rs, q :: ys, h, k + 1, y, hk => by simpa using WkT.get h.2 k y (by simpa using hk)
  | [], y :: ys, h, _, _, _ => h.elim
  | r :: rs, [], h, _, _, _ => h.elim
theorem Wk3.vr {r y : AV} (h : Wk3 r y) {E : Env} {n : Nat} {v : Value} (hv : E.VR n v r) : E.VR n v y := by
  rcases h with h | ⟨rs, ys, rfl, rfl, h⟩
  · exact h.vr hv
  · obtain ⟨vs, rfl, hl, hk⟩ := hv.tup_inv
    refine .tup (hl.trans h.len) fun k y hy => ?_
    obtain ⟨r, h1, h2⟩ := h.get k y hy
    exact h2.vr (hk k r h1)
theorem PCall.wk3 {P : Program} {f : FuncId} {args : List AV} {y : AV} (h : ACall P f args [] fun r _ => Wk3 r y) : PCall P f args y :=
  ⟨h.1, fun E vs hm hl hv => (h.2 E vs hm hl hv).mono fun e w' ⟨v, y', H', E', h1, h2, h3, h4, h5, h6⟩ => ⟨v, y, H', E', h1, h2, h6.vr h3, h4, h5, rfl⟩⟩
theorem ACall.frz {P : Program} {f : FuncId} {args : List AV} {H : List AO} {Post Post' : AV → List AO → Prop} (h : ACall P f args H Post)
    (hk : ∀ y G, Post y G → ∃ id z l, G[id]? = some (.arr z l) ∧ Post' (y.fz id z l) (G.set id .dead)) : ACall P f args H Post' :=
  ⟨h.1, fun E vs hm hl hv => (h.2 E vs hm hl hv).mono fun e w' ⟨v, y, H', E', h1, h2, h3, h4, h5, h6⟩ => by
    obtain ⟨id, z, l, k1, k2⟩ := hk _ _ h6
    obtain ⟨g1, g2, g3, g4⟩ := stand_ok h4 k1
    refine ⟨v, y.fz id z l, H'.set id .dead, E'.stand id, h1, ?_, ?_, g1, ?_, k2⟩
    · rw [← h2]; first | exact g2 | exact g3 | exact g4 | rfl
    · rw [List.length_set]
      exact fz_vr h4 k1 h3
    · rw [List.length_set]
      refine h5.trans' (Trans.cut ?_ h5.num)
      first | exact g2 | exact g3 | exact g4⟩
end Go.Ab
namespace Go.Ab
open Go
set_option linter.unusedSimpArgs false
set_option linter.unusedVariables false
section sound
variable {P : Program} {E : Env} {H : List AO}
theorem light_notbls {o : Oper} {z n : Nat} {v : AV} {ps : List (Nat × Operand)} (h : copLight P o = some (.bls z n v ps)) : False := by
  unfold copLight copBin copConv copField copFld copBuild copBuiltin at h
  (repeat' split at h) <;> first | (cases h; done) | skip
theorem rw_bls {o : Oper} {z n : Nat} {v : AV} {ps : List (Nat × Operand)} (h : copRW P o = some (.bls z n v ps)) : ∃ t el parts, o.op = .buildSlice t n parts ∧ parts.toList = ps ∧ P.underlying t = some (.slice el) ∧ zeroEl P el = some v ∧ (P.info? el).isSome = true ∧ P.cellsOf el = z := by
  unfold copRW at h
  (repeat' split at h) <;> first | (cases h; done) | skip
  cases h
  exact ⟨_, _, _, by assumption, rfl, by assumption, by assumption, by assumption, rfl⟩
theorem rw_app2 {o : Oper} {z b : Nat} {s x : Operand} (h : copRW P o = some (.app z b s x)) : ∃ args ts t t2 el el2, o.op = .call { callee := .builtin .append, args := args, argTypes := ts } ∧ args.toList = [s, x] ∧ ts.toList = [t, t2] ∧ P.underlying t = some (.slice el) ∧ P.underlying t2 = some (.slice el2) ∧ (P.info? el).isSome = true ∧ (zeroAV P el).map List.length = some (P.cellsOf el) ∧ P.cellsOf el = z ∧ P.bytesOf el = b := by
  unfold copRW at h
  (repeat' split at h) <;> first | (cases h; done) | skip
  rename_i hcond
  simp only [Bool.and_eq_true, decide_eq_true_eq] at hcond
  cases h
  exact ⟨_, _, _, _, _, _, by assumption, by assumption, by assumption, by assumption, by assumption, hcond.1, hcond.2, rfl, rfl⟩
theorem new_abox (hm : HM E H) (cells : Array Value) (t : TypeId) (cs : List AV) (z len cap : Nat) (hl : cells.size = cs.length) (hc : cap * z = cs.length) (hlen : len ≤ cap) (h1 : ∀ y ∈ cs, y.one = true)
    (hv : ∀ k y, cs[k]? = some y → E.VR H.length (cells.getD k undef) y) :
    ∃ E', E'.w = E.w.alloc (.cells cells t) ∧ E'.VR (H ++ [AO.box cs]).length (.slice (some ⟨E.w.heap.size, 0, none⟩) len cap) (.own H.length z 0 len) ∧ HM E' (H ++ [.box cs]) ∧ Trans E H.length E' (H ++ [AO.box cs]).length := by
  have t1 := trans_alloc hm (.cells cells t) ⟨E.w.heap.size, 0, cs.length, z⟩
  refine ⟨E.alloc H.length (.cells cells t) ⟨E.w.heap.size, 0, cs.length, z⟩, rfl, ?_, hm_alloc hm _ _ rfl _ ?_, by simpa using t1⟩
  · have : (E.alloc H.length (.cells cells t) ⟨E.w.heap.size, 0, cs.length, z⟩).VR (H ++ [AO.box cs]).length (.slice (some ⟨E.w.heap.size, 0 + 0 * z, none⟩) len cap) (.own H.length z 0 len) :=
      .own (L := ⟨E.w.heap.size, 0, cs.length, z⟩) (by simp) updMu_new rfl hlen (by simpa using hc)
    simpa using this
  · exact ⟨_, cells, t, (0, 0), updMu_new, .inr rfl, rfl, rfl, heap_alloc_new _ _, hl, notFrozen0 _, h1, fun k y hk => (hv k y hk).trans hm t1⟩
open Classical in
theorem sbl_box {e : Operand → AV} {K : AV → List AO → Prop} {z : Nat} {zero : AV} {x : Operand} (h1 : z ≤ 2 ^ 24) (hz0 : zero.el z = true) (hx : (e x).cells.length = z) (hone : ∀ y ∈ (e x).cells, y.one = true)
    (hk : K (.own H.length z 0 1) (H ++ [.box (e x).cells])) : SemOp P (.bls z 1 zero [(0, x)]) e H K := by
  intro o E a hc hm he
  have hl : copRW P o = some (.bls z 1 zero [(0, x)]) := by
    unfold copC at hc
    split at hc
    · split at hc
      · rename_i h1 _; cases hc; exact (light_notbls h1).elim
      · cases hc
    · split at hc
      · split at hc
        · rename_i h1 _; cases hc; exact h1
        · cases hc
      · unfold copCall at hc
        split at hc <;> cases hc
  obtain ⟨t, el, parts, ho, hps, ht, hz, hi, rfl⟩ := rw_bls hl
  obtain ⟨parts⟩ := parts
  simp only at hps
  subst hps
  obtain ⟨ii, hii⟩ := Option.isSome_iff_exists.1 hi
  obtain ⟨v, hv, hvs, hvv⟩ := zeroEl_vr (E := E) (n := H.length) hz hz0
  have hxv : E.VR H.length (a.eval x) (e x) := he x (by simp [CO.ops])
  generalize hzz : P.cellsOf el = z at *
  have he' : ∀ y, E.VR H.length (a.eval y) ((fun y => if y = x then e x else .top) y) := fun y => by
    by_cases h : y = x
    · subst h; simp only [if_true]; exact hxv
    · simp only [h, if_false]; exact .top
  have hzc := el_cells hz0
  obtain ⟨cs, g1, g2, g3, g4, g5⟩ := fill_vr (E := E) (n := H.length) (a := a) (e := fun y => if y = x then e x else .top) (fun i => some (i * z, z)) [(0, 0 * z, z, x)] (madeCells v.cells (1 * z)).toList zero.cells
    (by rw [hzc.1]; simp [madeCells]) (fun k y hk => by
      have := made_vr (E := E) (n := H.length) hz0 hvs hvv 1 (1 * z) (Nat.le_refl _) k y (by simpa [flat] using hk)
      simpa [Array.getD_eq_getD_getElem?, List.getD_eq_getElem?_getD] using this) (fun y hy => AV.one_of_ok (hzc.2 y hy)) (fun p hp => by simp at hp; subst hp; simp) he'
    (by simp [fillOk, hx, hzc.1]; exact fun y hy => hone y hy)
  have e1 : fillAV zero.cells ([(0, 0 * z, z, x)].map fun p => (p.2.1, p.2.2.1, (fun y => if y = x then e x else AV.top) p.2.2.2)) = (e x).cells := by
    simp [fillAV, hzc.1]
  rw [e1] at g3 g4 g5
  have hcs : cs.toArray.size = (e x).cells.length := by simp [g2, hzc.1, hx]
  obtain ⟨E', hw, r1, r2, r3⟩ := new_abox hm cs.toArray el (e x).cells z 1 1 hcs (by rw [hx]; omega) (Nat.le_refl _) hone
    (fun k y hk => by simpa [Array.getD_eq_getD_getElem?, List.getD_eq_getElem?_getD] using g4 k y hk)
  refine ⟨_, _, E', _, .inl ?_, r1, r2, r3, hk⟩
  have hs : execOp a.eval o = (do pure (.value (← Instr.buildSlice t 1 #[(0, a.eval x)]))) := by simp [execOp, ho]
  have hnz : ¬ (1 * z > 2 ^ 24) := by omega
  rw [hs, hw]
  have g1' : Instr.fill (fun i => some (i * z, z)) (madeCells v.cells (1 * z)) [(0, a.eval x)] = some cs.toArray := by simpa using g1
  have hbs : (Instr.buildSlice t 1 #[(0, a.eval x)]).run P E.w = .ok (.slice (some ⟨E.w.heap.size, 0, none⟩) 1 1) (E.w.alloc (.cells cs.toArray el)) := by
    simp only [Instr.buildSlice, Sem.run_bind, run_underlying ht, Result.andThen_ok, run_sizeOf _ hii, hzz, hnz, if_false]
    by_cases h0 : 1 * z = 0
    · have e3 : ∀ q : Array Value, (Array.range (1 * z)).map (q[· % q.size]!) = madeCells v.cells (1 * z) := fun q => by simp [h0, madeCells, Array.range_zero']
      rw [if_pos h0]
      simp only [Sem.run_bind, Sem.run_pure, Result.andThen_ok, e3, g1']
      rfl
    · rw [if_neg h0]
      have e3 : (Array.range (1 * z)).map (v.cells[· % v.cells.size]!) = madeCells v.cells (1 * z) := rfl
      simp only [Sem.run_bind, hv, Sem.run_pure, Result.andThen_ok, e3, g1']
      rfl
  simp only [Sem.run_bind, hbs, Result.andThen_ok, Sem.run_pure]
theorem firstCells_box {id z m : Nat} {cs : List AV} {v : Value} (hm : HM E H) (hx : E.VR H.length v (.own id z 0 m)) (hob : H[id]? = some (.box cs)) (hcs : m * z ≤ cs.length) :
    ∃ A c, ∃ us : List Value, v = .slice A m c ∧ m ≤ c ∧ (Builtin.firstCells z m v).run P E.w = .ok us.toArray E.w ∧ us.length = m * z ∧ (∀ u ∈ us, u.oneCell' = true) ∧ ∀ k y, k < m * z → cs[k]? = some y → E.VR H.length (us.getD k undef) y := by
  obtain ⟨L', u, t, fz, b1, b2, b3, b4, b5, b6, b7, b8, b9⟩ := hm.obj id _ hob
  obtain ⟨_, ⟨A, rfl, rfl, he0⟩ | ⟨L, c, hL, hLz, rfl, hlen, hcap⟩⟩ := hx.own_inv
  · refine ⟨A, 0, [], rfl, Nat.le_refl _, ?_, by simp, by simp, fun k y hk => by omega⟩
    cases A with
    | none => rfl
    | some ad => simp [Builtin.firstCells, loadCells, loadCellsFrom]
  · rw [b1] at hL
    cases hL
    have hcell : ∀ k, k < m * z → E.w.cell? ⟨L'.b, L'.o + 0 * z + k, none⟩ = some (u.getD k undef) := fun k hk => by
      have hlt : k < u.size := by omega
      simp only [World.cell?, b5, b3]
      simp [Array.getD, hlt]
    refine ⟨_, c, (List.range (m * z)).map fun k => u.getD k undef, rfl, hlen, ?_, by simp, fun x hx => ?_, fun k y hk hy => ?_⟩
    · simp only [Builtin.firstCells]
      exact loadCells_of hcell
    · obtain ⟨k, hk, rfl⟩ := List.mem_map.1 hx
      have hk' : k < cs.length := by have := List.mem_range.1 hk; omega
      exact (b9 k _ (List.getElem?_eq_getElem hk')).one (b8 _ (List.getElem_mem hk'))
    · have : ((List.range (m * z)).map fun k => u.getD k undef).getD k undef = u.getD k undef := by
        simp [List.getD_eq_getElem?_getD, hk]
      rw [this]
      exact b9 k y hy
theorem any_ge {cs : List AV} {k n : Nat} {y : AV} (hk : (cs ++ List.replicate n AV.any)[k]? = some y) : (k < cs.length ∧ cs[k]? = some y) ∨ (cs.length ≤ k ∧ k < cs.length + n ∧ y = .any) := by
  by_cases h : k < cs.length
  · rw [List.getElem?_append_left h] at hk
    exact .inl ⟨h, hk⟩
  · rw [List.getElem?_append_right (by omega)] at hk
    have := (List.getElem?_eq_some_iff.1 hk)
    obtain ⟨h1, h2⟩ := this
    rw [List.getElem_replicate] at h2
    simp at h1
    exact .inr ⟨by omega, by omega, h2.symm⟩
theorem sap_box {e : Operand → AV} {K : AV → List AO → Prop} {z b n m ix : Nat} {s x : Operand} {cs ys : List AV} (hz0 : 0 < z) (hm0 : 0 < m)
    (hs : (e s = .nils ∧ n = 0 ∧ cs = []) ∨ ∃ id, e s = .own id z 0 n ∧ H[id]? = some (.box cs)) (hn : n * z ≤ cs.length) (hx : e x = .own ix z 0 m) (hox : H[ix]? = some (.box ys)) (hys : ys.length = m * z)
    (hb : (n + m) * b ≤ 2 ^ 47) (h63 : n + m < 2 ^ 63)
    (hk : ∀ k, K (.own H.length z 0 (n + m)) (killOf H (e s) ++ [.box (cs.take (n * z) ++ ys ++ List.replicate k .any)])) : SemOp P (.app z b s x) e H K := by
  intro o E a hc hm he
  have hl : copRW P o = some (.app z b s x) := by
    unfold copC at hc
    split at hc
    · split at hc
      · rename_i h1 _; cases hc; exact (light_noapp h1).elim
      · cases hc
    · split at hc
      · split at hc
        · rename_i h1 _; cases hc; exact h1
        · cases hc
      · unfold copCall at hc
        split at hc <;> cases hc
  obtain ⟨args, ts, t, t2, el, el2, ho, ha, hts, ht, ht2, hi, hz0l, hz, hbb⟩ := rw_app2 hl
  obtain ⟨ii, hii⟩ := Option.isSome_iff_exists.1 hi
  obtain ⟨args⟩ := args
  obtain ⟨ts⟩ := ts
  simp only at ha hts
  subst ha hts hbb
  have hs' : execOp a.eval o = (do pure (.value (← Builtin.append_ #[t, t2] o.type #[a.eval s, a.eval x]))) := by
    simp only [execOp, ho, resolve, invoke, pure_bind, builtin, List.map_toArray, List.map_cons, List.map_nil]
  have hsv : E.VR H.length (a.eval s) (e s) := he s (by simp [CO.ops])
  have hxv : E.VR H.length (a.eval x) (e x) := he x (by simp [CO.ops])
  rw [hx] at hxv
  have hysone : ∀ y ∈ ys, y.one = true := by
    obtain ⟨L', u, t, fz, b1, b2, b3, b4, b5, b6, b7, b8, b9⟩ := hm.obj ix _ hox
    exact b8
  have hlt : (cs.take (n * z) ++ ys).length = (n + m) * z := by
    rw [List.length_append, List.length_take, hys, Nat.add_mul]
    omega
  have e0 : (n + m) * z = n * z + m * z := Nat.add_mul _ _ _
  -- what is appended to
  have hS : ∃ A c, a.eval s = .slice A n c ∧ n ≤ c ∧ (∀ y ∈ cs, y.one = true) ∧
      ((c = 0 ∧ n = 0) ∨ ∃ id L, e s = .own id z 0 n ∧ H[id]? = some (.box cs) ∧ id < H.length ∧ E.μ id = some L ∧ L.z = z ∧ A = some ⟨L.b, L.o, none⟩ ∧ L.o + c * z = L.n) := by
    rcases hs with ⟨h1, rfl, rfl⟩ | ⟨id, h1, h2⟩
    · rw [h1] at hsv
      exact ⟨none, 0, hsv.nils_inv, Nat.le_refl _, by simp, .inl ⟨rfl, rfl⟩⟩
    · rw [h1] at hsv
      obtain ⟨L', u, t, fz, b1, b2, b3, b4, b5, b6, b7, b8, b9⟩ := hm.obj id _ h2
      obtain ⟨hid, ⟨A, hv, rfl, he0⟩ | ⟨L, c, hL, hLz, hv, hlen, hcap⟩⟩ := hsv.own_inv
      · exact ⟨A, 0, hv, Nat.le_refl _, b8, .inl ⟨rfl, rfl⟩⟩
      · refine ⟨_, c, hv, hlen, b8, .inr ⟨id, L, h1, h2, hid, hL, hLz, by simp, by simpa using hcap⟩⟩
  obtain ⟨A, c, hv, hnc, hcone, hcase⟩ := hS
  obtain ⟨B, c2, ws, hu, hmc2, w1, w2, w3, w4⟩ := firstCells_box (P := P) hm hxv hox (by omega)
  by_cases hroom : n + m ≤ c
  · -- there is room
    rcases hcase with ⟨h0, _⟩ | ⟨id, L, h1, hob, hid, hL, hLz, hA, hcap⟩
    · omega
    obtain ⟨L', u, t', fz, b1, b2, b3, b4, b5, b6, b7, b8, b9⟩ := hm.obj id _ hob
    rw [hL] at b1
    cases b1
    have hcz : c * z = cs.length := by omega
    have hcm : (n + m) * z ≤ c * z := Nat.mul_le_mul_right _ hroom
    have hst := run_storeCells_nf P L.b t' fz ws (L.o + n * z) 0 u E.w b5 (by rw [b6]; exact b7) (by rw [b6, w2]; omega) w3
    obtain ⟨cur, hcur⟩ : ∃ cur, cur = u.toList.take (L.o + n * z + 0) ++ ws ++ u.toList.drop (L.o + n * z + 0 + ws.length) := ⟨_, rfl⟩
    have hcurl : cur.length = L.n := by rw [hcur]; simp; omega
    rw [← hcur] at hst
    have hr : (Builtin.append_ #[t, t2] o.type #[a.eval s, a.eval x]).run P E.w = .ok (.slice A (n + m) c) (E.w.setRow L.b cur.toArray) := by
      rw [hv, hu, hA]
      rw [hu] at w1
      exact run_app_room (P := P) (ty := o.type) ht ht2 hii hz w1 hroom hst
    have t1 : Trans E H.length { E with w := E.w.setRow L.b cur.toArray } H.length :=
      trans_write _ L.b rfl rfl rfl (by rw [setRow_size]; exact Nat.le_refl _) (fun k hk => setRow_other _ _ _ _ hk) b2
    let new : List AV := cs.take (n * z) ++ ys ++ List.replicate (cs.length - (n + m) * z) .any
    have hnewl : new.length = cs.length := by
      show (cs.take (n * z) ++ ys ++ List.replicate (cs.length - (n + m) * z) AV.any).length = cs.length
      rw [List.length_append, hlt, List.length_replicate]
      omega
    have hnew1 : ∀ y ∈ new, y.one = true := fun y hy => by
      rcases List.mem_append.1 hy with hy | hy
      · rcases List.mem_append.1 hy with hy | hy
        · exact hcone y (List.mem_of_mem_take hy)
        · exact hysone y hy
      · rw [List.eq_of_mem_replicate hy]; rfl
    have hcell : ∀ k y, new[k]? = some y → E.VR H.length (cur.toArray.getD k undef) y := fun k y hk => by
      have hkl : k < cs.length := by rw [← hnewl]; exact (List.getElem?_eq_some_iff.1 hk).1
      have g0 : cur.toArray.getD k undef = cur.getD k undef := by simp [Array.getD_eq_getD_getElem?, List.getD_eq_getElem?_getD]
      rw [g0, hcur, List.append_assoc, List.getD_eq_getElem?_getD]
      have f3 : (u.toList.take (L.o + n * z + 0)).length = n * z := by simp; omega
      rcases any_ge hk with ⟨h1, h2⟩ | ⟨h1, h2, rfl⟩
      · by_cases hk1 : k < n * z
        · rw [List.getElem?_append_left (by simp; omega), List.getElem?_take, if_pos hk1] at h2
          rw [List.getElem?_append_left (by omega), List.getElem?_take, if_pos (by omega)]
          have := b9 k y h2
          simpa [Array.getD_eq_getD_getElem?] using this
        · have ft : (cs.take (n * z)).length = n * z := by simp; omega
          rw [List.getElem?_append_right (by omega), ft] at h2
          have h3 := (List.getElem?_eq_some_iff.1 h2).1
          rw [List.getElem?_append_right (by omega), List.getElem?_append_left (by omega), f3, ← List.getD_eq_getElem?_getD]
          exact w4 _ y (by omega) h2
      · rw [hlt] at h1 h2
        rw [List.getElem?_append_right (by omega), List.getElem?_append_right (by omega), List.getElem?_drop, f3]
        have e5 : L.o + n * z + 0 + ws.length + (k - n * z - ws.length) = k := by omega
        rw [e5]
        have h4 := (b9 k _ (List.getElem?_eq_getElem hkl)).one (b8 _ (List.getElem_mem hkl))
        refine .any ?_
        simpa [Array.getD_eq_getD_getElem?] using h4
    have hnew : ({ E with w := E.w.setRow L.b cur.toArray } : Env).holds H.length id (.box new) :=
      ⟨L, _, t', fz, hL, b2, b3, by rw [hnewl]; exact b4, setRow_heap _ _ u _ t' fz b5, by simpa using hcurl, b7, hnew1, fun k y hk => (hcell k y hk).trans hm t1⟩
    have hm1 := hm_write hm (E.w.setRow L.b cur.toArray) id _ (.box new) L rfl rfl rfl (setRow_size _ _ _) (fun k hk => setRow_other _ _ _ _ hk) hob rfl hL hnew
    have hob1 : (H.set id (.box new))[id]? = some (.box new) := List.getElem?_set_self hid
    have hm2 := hm_adopt hm1 id _ (.box new) L L hob1 rfl hL rfl (by
      have t2 := trans_adopt (E := { E with w := E.w.setRow L.b cur.toArray }) (H := H.set id (.box new)) (some L)
      rw [List.length_set] at t2 ⊢
      refine ⟨L, _, t', fz, updMu_new, b2, b3, by rw [hnewl]; exact b4, setRow_heap _ _ u _ t' fz b5, by simpa using hcurl, b7, hnew1, fun k y hk => ?_⟩
      have h5 : ({ E with w := E.w.setRow L.b cur.toArray } : Env).VR (H.set id (.box new)).length (cur.toArray.getD k undef) y := by
        rw [List.length_set]; exact (hcell k y hk).trans hm t1
      have := h5.trans hm1 (trans_adopt (E := { E with w := E.w.setRow L.b cur.toArray }) (H := H.set id (.box new)) (some L))
      rw [List.length_set] at this
      exact this)
    have hset : (H.set id (.box new)).set id AO.dead = H.set id .dead := by rw [List.set_set]
    rw [hset, List.length_set] at hm2
    have hkill : killOf H (e s) = H.set id .dead := by rw [h1]; rfl
    have hk1 := hk (cs.length - (n + m) * z)
    rw [hkill] at hk1
    refine ⟨.slice A (n + m) c, _, _, _, .inl ?_, ?_, hm2, ?_, hk1⟩
    · rw [hs']
      simp only [Sem.run_bind, hr, Result.andThen_ok, Sem.run_pure]
      rfl
    · have : Env.VR (Env.adopt { E with w := E.w.setRow L.b cur.toArray } H.length (some L)) (H.set id .dead ++ [AO.box new]).length (.slice (some ⟨L.b, L.o + 0 * z, none⟩) (n + m) c) (.own H.length z 0 (n + m)) :=
        .own (L := L) (by simp) updMu_new hLz hroom (by simpa using hcap)
      rw [hA]
      simpa using this
    · have := t1.trans (trans_adopt (E := { E with w := E.w.setRow L.b cur.toArray }) (H := H) (some L))
      simpa using this
  · -- it grows
    have hmd := hm_drew hm
    have hkl := kill_len H (e s)
    have hmk := hm_kill' hmd (e s)
    obtain ⟨B', c2', ws', hu', hmc2', w1', w2', w3', w4'⟩ := firstCells_box (P := P) hmd (hxv.trans hm trans_drew) hox (by omega)
    have hus : ∃ us : List Value, (Builtin.firstCells z n (a.eval s)).run P E.w.drew = .ok us.toArray E.w.drew ∧ us.length = n * z ∧ ∀ k y, k < n * z → cs[k]? = some y → E.drew.VR H.length (us.getD k undef) y := by
      rcases hs with ⟨h1, h2, h3⟩ | ⟨id, h1, h2⟩
      · rw [hv]
        refine ⟨[], ?_, by rw [h2]; simp, fun k y hk => by rw [h2] at hk; omega⟩
        rw [h2]
        cases A with
        | none => rfl
        | some ad => simp [Builtin.firstCells, loadCells, loadCellsFrom]
      · rw [h1] at hsv
        obtain ⟨_, _, us, _, _, q1, q2, _, q4⟩ := firstCells_box (P := P) hmd (hsv.trans hm trans_drew) h2 hn
        exact ⟨us, q1, q2, q4⟩
    obtain ⟨us, u1, u2, u4⟩ := hus
    rw [hv] at u1
    rw [hu'] at w1'
    obtain ⟨zs, hzs⟩ : ∃ zs, zeroAV P el = some zs := by
      cases hq : zeroAV P el with
      | none => rw [hq] at hz0l; cases hz0l
      | some q => exact ⟨q, rfl⟩
    obtain ⟨zv, hzv, hzvl, hz1, hz2⟩ := zero_vr (E := E.drew) (n := H.length) hzs
    rw [hzs] at hz0l
    simp only [Option.map_some, Option.some.injEq] at hz0l
    have hzc : zv.cells.size = z := by simp at hzvl; omega
    have hzc1 := zero_one hzvl hz1 hz2
    have hr : (Builtin.append_ #[t, t2] o.type #[a.eval s, a.eval x]).run P E.w = .ok (.slice (some ⟨E.w.heap.size, 0, none⟩) (n + m) (grownCap E.w (n + m) c el))
        (E.w.drew.alloc (.cells (us.toArray ++ ws'.toArray ++ Builtin.zeroCells zv.cells (grownCap E.w (n + m) c el - (n + m))) el)) := by
      rw [hv, hu']
      exact run_app_grow (P := P) (ty := o.type) ht ht2 hii hz u1 w1' (by omega) h63 hb hzv
    have hcg := grownCap_ge E.w (n + m) c el
    generalize grownCap E.w (n + m) c el = cap at hr hcg
    let new : List AV := cs.take (n * z) ++ ys ++ List.replicate ((cap - (n + m)) * z) .any
    have hcapz : cap * z = (n + m) * z + (cap - (n + m)) * z := by rw [← Nat.add_mul]; congr 1; omega
    have hnewl : new.length = cap * z := by
      show (cs.take (n * z) ++ ys ++ List.replicate ((cap - (n + m)) * z) AV.any).length = cap * z
      rw [List.length_append, hlt, List.length_replicate, hcapz]
    have hnew1 : ∀ y ∈ new, y.one = true := fun y hy => by
      rcases List.mem_append.1 hy with hy | hy
      · rcases List.mem_append.1 hy with hy | hy
        · exact hcone y (List.mem_of_mem_take hy)
        · exact hysone y hy
      · rw [List.eq_of_mem_replicate hy]; rfl
    have hsz : (us.toArray ++ ws'.toArray ++ Builtin.zeroCells zv.cells (cap - (n + m))).size = cap * z := by
      simp only [Array.size_append, List.size_toArray, size_zeroCells, hzc, u2, w2']
      rw [hcapz, e0]
    obtain ⟨E', hw, r1, r2, r3⟩ := new_abox hmk (us.toArray ++ ws'.toArray ++ Builtin.zeroCells zv.cells (cap - (n + m))) el new z (n + m) cap (by rw [hsz, hnewl]) hnewl.symm hcg hnew1 (fun k y hk => by
      rw [hkl]
      have hkl2 : k < cap * z := by rw [← hnewl]; exact (List.getElem?_eq_some_iff.1 hk).1
      rw [Array.getD_eq_getD_getElem?]
      have husz : (us.toArray ++ ws'.toArray).size = (n + m) * z := by simp [u2, w2', e0]
      rcases any_ge hk with ⟨h1, h2⟩ | ⟨h1, h2, rfl⟩
      · rw [hlt] at h1
        rw [Array.getElem?_append_left (by omega)]
        by_cases hk1 : k < n * z
        · rw [List.getElem?_append_left (by simp; omega), List.getElem?_take, if_pos hk1] at h2
          rw [Array.getElem?_append_left (by simp; omega)]
          have := u4 k y hk1 h2
          simpa [List.getD_eq_getElem?_getD] using this
        · have ft : (cs.take (n * z)).length = n * z := by simp; omega
          rw [List.getElem?_append_right (by omega), ft] at h2
          rw [Array.getElem?_append_right (by simp; omega)]
          have := w4' (k - n * z) y (by omega) h2
          simpa [List.getD_eq_getElem?_getD, u2] using this
      · rw [hlt] at h1
        rw [Array.getElem?_append_right (by omega), husz]
        have h3 : k - (n + m) * z < (Builtin.zeroCells zv.cells (cap - (n + m))).size := by
          rw [size_zeroCells, hzc]; omega
        generalize k - (n + m) * z = j at h3 ⊢
        have hp : 0 < zv.cells.size := by omega
        have hj : j % zv.cells.size < zv.cells.size := Nat.mod_lt _ hp
        have e1 : (Builtin.zeroCells zv.cells (cap - (n + m)))[j]?.getD undef = zv.cells.getD (j % zv.cells.size) undef := by
          rw [size_zeroCells] at h3
          simp [Builtin.zeroCells, Array.getD, h3, hj]
        rw [e1]
        exact .any (hzc1 _ hj))
    have hk1 := hk ((cap - (n + m)) * z)
    rw [hkl] at r1 r3
    refine ⟨_, _, E', _, .inl ?_, r1, r2, ?_, hk1⟩
    · rw [hs', hw]
      simp only [Sem.run_bind, hr, Result.andThen_ok, Sem.run_pure]
      rfl
    · exact (trans_drew (H := H)).trans r3
theorem scal_vr {w w' : World} {S S' : Bool → Nat → Prop} {μ μ' : Nat → Option Loc} {n n' : Nat} {v : Value} {y : AV} (hy : y.scal = true) (h : VR w S μ n v y) : VR w' S' μ' n' v y := by
  cases h <;> first | (simp [AV.scal] at hy; done) | exact .int | exact .bool | (rename_i h; exact .str h)
theorem _root_.Go.Ab.Vw.boxA {q z n : Nat} {cs rows : List AV} (hq : H[q]? = some (.box cs)) (hel : ∀ a ∈ rows, a.el z = true) (hn : rows.length = n) (hc : ∀ (k : Nat) (y : AV), (flat rows)[k]? = some y → ∃ x : AV, cs[k]? = some x ∧ ((x = y ∧ y.scal = true) ∨ y = .any)) :
    Vw true H (.own q z 0 n) (.sl true z rows) := fun G E v hm hv => by
  have hq2 : (H ++ G)[q]? = some (.box cs) := by rw [List.getElem?_append_left (List.getElem?_eq_some_iff.1 hq).1]; exact hq
  obtain ⟨L', u, t, fz, b1, b2, b3, b4, b5, b6, b7, b8, b9⟩ := hm.obj q _ hq2
  obtain ⟨_, ⟨A, rfl, h0, he0⟩ | ⟨L, c, hL, hLz, rfl, hlen, hcap⟩⟩ := hv.own_inv
  · have : rows = [] := List.eq_nil_of_length_eq_zero (by omega)
    subst this
    exact .sl0
  · rw [b1] at hL
    cases hL
    refine .sl (fun k => u.getD k undef) hn.symm (by omega) (.inr ⟨rfl, hm.bound _ b2⟩) hel (fun k hk => ?_) fun k y hk => ?_
    · obtain ⟨x, hx, _⟩ := hc k _ (List.getElem?_eq_getElem hk)
      have hlt : k < u.size := by have := (List.getElem?_eq_some_iff.1 hx).1; omega
      have : E.w.cell? ⟨L'.b, L'.o + 0 * z + k, none⟩ = some (u.getD k undef) := by
        simp only [World.cell?, b5, b3]
        simp [Array.getD, hlt]
      exact this
    · obtain ⟨x, hx, hh⟩ := hc k y hk
      have hvx := b9 k x hx
      rcases hh with ⟨rfl, hs⟩ | rfl
      · exact scal_vr hs hvx
      · exact .any (hvx.one (b8 x (List.mem_of_getElem? hx)))
theorem _root_.Go.Ab.Vw.agg2 {lent : Bool} {a b a' b' : AV} (h1 : Vw lent H a a') (h2 : Vw lent H b b') (o1 : a'.one = true) (o2 : b'.one = true) : Vw lent H (.agg [a, b]) (.agg [a', b']) := fun G E v hm hv => by
  cases hv with
  | agg hl _ hk =>
    refine .agg hl (fun y hy => ?_) fun k y hy => ?_
    · simp at hy
      rcases hy with rfl | rfl
      · exact o1
      · exact o2
    · match k, hy with
      | 0, hy => simp at hy; subst hy; exact h1 G E _ hm (hk 0 _ rfl)
      | 1, hy => simp at hy; subst hy; exact h2 G E _ hm (hk 1 _ rfl)
      | k + 2, hy => simp at hy
theorem hm_retell {q : Nat} {cs cs' : List AV} (hm : HM E H) (hq : H[q]? = some (.box cs)) (hl : cs'.length = cs.length) (h1 : ∀ y ∈ cs', y.one = true) (hv : ∀ (k : Nat) (x y : AV), cs[k]? = some x → cs'[k]? = some y → ∀ v, E.VR H.length v x → E.VR H.length v y) : HM E (H.set q (.box cs')) := by
  obtain ⟨L, u, t, fz, b1, b2, b3, b4, b5, b6, b7, b8, b9⟩ := hm.obj q _ hq
  exact hm_write hm E.w q _ (.box cs') L rfl rfl rfl rfl (fun _ _ => rfl) hq rfl b1 ⟨L, u, t, fz, b1, b2, b3, by rw [hl]; exact b4, b5, b6, b7, h1, fun k y hk => by
    have hkl : k < cs.length := by rw [← hl]; exact (List.getElem?_eq_some_iff.1 hk).1
    exact hv k _ y (List.getElem?_eq_getElem hkl) hk _ (b9 k _ (List.getElem?_eq_getElem hkl))⟩
theorem freeze_in {q c z : Nat} {A B l : List AV} (hm : HM E H) (hq : H[q]? = some (.box (A ++ .own c z 0 l.length :: B))) (hc : H[c]? = some (.arr z l)) (hne : c ≠ q) :
    ∃ E1 : Env, E1.w = E.w ∧ E1.μ = E.μ ∧ HM E1 ((H.set c .dead).set q (.box (A ++ .sl false z l :: B))) ∧ Trans E H.length E1 H.length := by
  have hq2 : (H.set c .dead)[q]? = some (.box (A ++ .own c z 0 l.length :: B)) := by rw [List.getElem?_set_ne hne]; exact hq
  obtain ⟨Lq, uq, tq, fq, b1, b2, b3, b4, b5, b6, b7, b8, b9⟩ := hm.obj q _ hq
  have h1 : ∀ y ∈ A ++ .sl false z l :: B, y.one = true := fun y hy => by
    rcases List.mem_append.1 hy with hy | hy
    · exact b8 y (List.mem_append_left _ hy)
    · rcases List.mem_cons.1 hy with rfl | hy
      · rfl
      · exact b8 y (List.mem_append_right _ (List.mem_cons_of_mem _ hy))
  have tell : ∀ {E1 : Env} {n : Nat}, (∀ v, E1.VR n v (.own c z 0 l.length) → E1.VR n v (.sl false z l)) → ∀ (k : Nat) (x y : AV), (A ++ .own c z 0 l.length :: B)[k]? = some x → (A ++ .sl false z l :: B)[k]? = some y → ∀ v, E1.VR n v x → E1.VR n v y := by
    intro E1 n ht k x y hx hy v hv
    by_cases hk : k < A.length
    · rw [List.getElem?_append_left hk] at hx hy
      rw [hx] at hy; cases hy; exact hv
    · rw [List.getElem?_append_right (by omega)] at hx hy
      match h : k - A.length with
      | 0 => rw [h] at hx hy; simp at hx hy; subst hx hy; exact ht v hv
      | j + 1 => rw [h] at hx hy; simp at hx hy; rw [hx] at hy; cases hy; exact hv
  rcases hm.obj c _ hc with ⟨g1, rfl⟩ | ⟨L, u, t, fz, g1, g2, g3, g4, g5, g6, g7, g8, g9, g10, g11⟩
  · refine ⟨E, rfl, rfl, hm_retell (hm_kill hm c) hq2 (by simp) h1 (tell fun v hv => ?_), Trans.refl _ _⟩
    obtain ⟨_, ⟨A, rfl, h0, he0⟩ | ⟨L, c, hL, hLz, rfl, hlen, hcap⟩⟩ := hv.own_inv
    · exact .sl0
    · exact .sl0
  · have t1 := trans_freeze (H := H) L.b g2
    have hm1 := hm_freeze hm c _ L hc rfl g1
    refine ⟨E.freeze L.b, rfl, rfl, hm_retell hm1 hq2 (by simp) h1 (tell fun v hv => ?_), t1⟩
    obtain ⟨_, ⟨A, rfl, h0, he0⟩ | ⟨L', cc, hL, hLz, rfl, hlen, hcap⟩⟩ := hv.own_inv
    · have : l = [] := List.eq_nil_of_length_eq_zero h0
      subst this
      exact .sl0
    · have hL : E.μ c = some L' := hL
      rw [g1] at hL
      cases hL
      refine .sl (fun k => u.getD (L.o + k) undef) rfl hlen (.inr rfl) g8 (fun k hk => ?_) fun k y hk => ?_
      · rw [flat_length g8] at hk
        have hlt : L.o + k < u.size := by omega
        have : E.w.cell? ⟨L.b, L.o + 0 * z + k, none⟩ = some (u.getD (L.o + k) undef) := by
          simp only [World.cell?, g5]
          simp [Array.getD, hlt]
        exact this
      · rw [List.length_set]
        exact (g9 k y hk).trans hm t1
structure NQ where
  path : List UInt8
  l : List AV
  user : Int
  id : Nat
def cellsO (qs : List NQ) : List AV := qs.flatMap fun q => [.str q.path, .own q.id 2 0 q.l.length, .int .i64 q.user]
def cellsS (qs : List NQ) : List AV := qs.flatMap fun q => [.str q.path, .sl false 2 q.l, .int .i64 q.user]
def rowsS (qs : List NQ) : List AV := qs.map fun q => .agg [.str q.path, .sl false 2 q.l, .int .i64 q.user]
def deadS (qs : List NQ) (H : List AO) : List AO := qs.foldl (fun H x => H.set x.id .dead) H
theorem deadS_len : ∀ (qs : List NQ) (H : List AO), (deadS qs H).length = H.length
  | [], H => rfl
  | q :: qs, H => by
    have := deadS_len qs (H.set q.id .dead)
    unfold deadS at this ⊢
    rw [List.foldl_cons, this, List.length_set]
theorem deadS_set : ∀ (qs : List NQ) (H : List AO) (i : Nat) (o : AO), (∀ x ∈ qs, x.id ≠ i) → deadS qs (H.set i o) = (deadS qs H).set i o
  | [], H, i, o, _ => rfl
  | q :: qs, H, i, o, h => by
    have := deadS_set qs (H.set q.id .dead) i o fun x hx => h x (List.mem_cons_of_mem _ hx)
    unfold deadS at this ⊢
    rw [List.foldl_cons, List.foldl_cons, ← this, List.set_comm _ _ (h q List.mem_cons_self).symm]
theorem seal_caps {q : Nat} {rest : List AV} : ∀ (todo done : List NQ) (E : Env) (H : List AO), HM E H → H[q]? = some (.box (cellsS done ++ (cellsO todo ++ rest))) → (∀ x ∈ todo, H[x.id]? = some (.arr 2 x.l) ∧ x.id ≠ q) → (todo.map NQ.id).Nodup →
    ∃ E1 : Env, E1.w = E.w ∧ E1.μ = E.μ ∧ HM E1 ((deadS todo H).set q (.box (cellsS (done ++ todo) ++ rest))) ∧ Trans E H.length E1 H.length
  | [], done, E, H, hm, hq, _, _ => by
    refine ⟨E, rfl, rfl, ?_, Trans.refl _ _⟩
    have : (deadS [] H).set q (.box (cellsS (done ++ []) ++ rest)) = H := by
      rw [List.append_nil]
      apply List.ext_getElem?
      intro k
      by_cases hk : k = q
      · subst hk
        rw [List.getElem?_set_self (by exact (List.getElem?_eq_some_iff.1 hq).1), hq]
        rfl
      · rw [List.getElem?_set_ne (Ne.symm hk)]
        rfl
    rw [this]
    exact hm
  | x :: todo, done, E, H, hm, hq, hc, hnd => by
    have hx := hc x List.mem_cons_self
    have e1 : cellsS done ++ (cellsO (x :: todo) ++ rest) = (cellsS done ++ [.str x.path]) ++ .own x.id 2 0 x.l.length :: (.int .i64 x.user :: (cellsO todo ++ rest)) := by
      simp [cellsO, List.flatMap_cons]
    rw [e1] at hq
    obtain ⟨E1, w1, m1, hm1, t1⟩ := freeze_in hm hq hx.1 hx.2
    rw [List.map_cons, List.nodup_cons] at hnd
    have hql : q < H.length := (List.getElem?_eq_some_iff.1 hq).1
    have hq1 : ((H.set x.id .dead).set q (.box ((cellsS done ++ [.str x.path]) ++ .sl false 2 x.l :: (.int .i64 x.user :: (cellsO todo ++ rest)))))[q]? = some (.box (cellsS (done ++ [x]) ++ (cellsO todo ++ rest))) := by
      rw [List.getElem?_set_self (by simpa using hql)]
      simp [cellsS, List.flatMap_append, List.flatMap_cons]
    obtain ⟨E2, w2, m2, hm2, t2⟩ := seal_caps todo (done ++ [x]) E1 _ hm1 hq1 (fun y hy => by
      have hy1 := hc y (List.mem_cons_of_mem _ hy)
      have hne : y.id ≠ x.id := fun e => hnd.1 (List.mem_map.2 ⟨y, hy, e⟩)
      refine ⟨?_, hy1.2⟩
      rw [List.getElem?_set_ne (Ne.symm hy1.2), List.getElem?_set_ne (Ne.symm hne)]
      exact hy1.1) hnd.2
    refine ⟨E2, w2.trans w1, m2.trans m1, ?_, t1.trans (by simpa using t2)⟩
    have e2 : (deadS todo ((H.set x.id .dead).set q (.box ((cellsS done ++ [.str x.path]) ++ .sl false 2 x.l :: (.int .i64 x.user :: (cellsO todo ++ rest)))))).set q (.box (cellsS (done ++ [x] ++ todo) ++ rest)) = (deadS (x :: todo) H).set q (.box (cellsS (done ++ x :: todo) ++ rest)) := by
      rw [deadS_set _ _ _ _ (fun y hy => (hc y (List.mem_cons_of_mem _ hy)).2), List.set_set, List.append_assoc, List.singleton_append]
      rfl
    rw [e2] at hm2
    exact hm2
theorem rowsS_el (qs : List NQ) : ∀ a ∈ rowsS qs, a.el 3 = true := fun a ha => by
  obtain ⟨x, _, rfl⟩ := List.mem_map.1 ha
  rfl
theorem rowsS_flat : ∀ qs : List NQ, flat (rowsS qs) = cellsS qs
  | [] => rfl
  | q :: qs => by
    have := rowsS_flat qs
    unfold flat rowsS cellsS at this ⊢
    rw [List.map_cons, List.flatMap_cons, List.flatMap_cons, this]
    rfl
theorem seal_row {q : Nat} {qs : List NQ} {rest : List AV} {v : Value} {L : Loc} (hm : HM E H) (hq : H[q]? = some (.box (cellsS qs ++ rest))) (hv : E.VR H.length v (.own q 3 0 qs.length)) (hL0 : E.μ q = some L) :
    (E.freeze L.b).VR H.length v (.sl false 3 (rowsS qs)) := by
  obtain ⟨L2, u, t, fz, b1, b2, b3, b4, b5, b6, b7, b8, b9⟩ := hm.obj q _ hq
  rw [hL0] at b1
  cases b1
  have b1 := hL0
  have t1 := trans_freeze (H := H) L.b b2
  have hfl := rowsS_flat qs
  have hrl : (rowsS qs).length = qs.length := by simp [rowsS]
  obtain ⟨_, ⟨A, rfl, h0, he0⟩ | ⟨L', cc, hL, hLz, rfl, hlen, hcap⟩⟩ := hv.own_inv
  · have : qs = [] := List.eq_nil_of_length_eq_zero h0
    subst this
    exact .sl0
  · rw [b1] at hL
    cases hL
    refine .sl (fun k => u.getD k undef) hrl.symm (by omega) (.inr rfl) (rowsS_el qs) (fun k hk => ?_) fun k y hk => ?_
    · rw [hfl] at hk
      have hlt : k < u.size := by
        rw [b6, b4, List.length_append]; omega
      have : E.w.cell? ⟨L.b, L.o + 0 * 3 + k, none⟩ = some (u.getD k undef) := by
        simp only [World.cell?, b5, b3]
        simp [Array.getD, hlt]
      exact this
    · rw [hfl] at hk
      have h2 : (cellsS qs ++ rest)[k]? = some y := by
        rw [List.getElem?_append_left (List.getElem?_eq_some_iff.1 hk).1]; exact hk
      exact (b9 k y h2).trans hm t1
theorem Trans.less {E E' : Env} {n m n' : Nat} (t : Trans E n E' n') (h : m ≤ n) : Trans E m E' n' :=
  ⟨t.os, t.tape, t.output, t.size, t.keep, t.grow, t.born, t.owns, fun id hi => t.mu id (by omega), Nat.le_trans h t.num⟩
theorem sem_seal {g q : Nat} {qs : List NQ} {rest : List AV} {a : AV} {G : List AO} (hq : G[q]? = some (.box (cellsO qs ++ rest))) (hc : ∀ x ∈ qs, G[x.id]? = some (.arr 2 x.l) ∧ x.id ≠ q) (hnd : (qs.map NQ.id).Nodup) (ha : a.one = true) :
    SemSub g ⟨[(0, .agg [a, .own q 3 0 qs.length])], G⟩ ⟨[(0, .agg [a, .sl false 3 (rowsS qs)])], (deadS qs G).set q .dead⟩ := by
  intro E m0 hg hG hm
  simp only at hG hm ⊢
  obtain ⟨E1, w1, m1, hm1, t1⟩ := seal_caps (q := q) (rest := rest) qs [] E G hm (by simpa [cellsS] using hq) hc hnd
  rw [List.nil_append] at hm1
  have hql : q < G.length := (List.getElem?_eq_some_iff.1 hq).1
  have hq1 : ((deadS qs G).set q (.box (cellsS qs ++ rest)))[q]? = some (.box (cellsS qs ++ rest)) := List.getElem?_set_self (by rw [deadS_len]; exact hql)
  have hlen1 : ((deadS qs G).set q (.box (cellsS qs ++ rest))).length = G.length := by rw [List.length_set, deadS_len]
  -- a value that stands for nothing, to get at the surroundings
  have b := hm1.obj q _ hq1
  obtain ⟨L, u, t, fz, b1, b2, b3, b4, b5, b6, b7, b8, b9⟩ := b
  have t2 := trans_freeze (H := (deadS qs G).set q (.box (cellsS qs ++ rest))) L.b b2
  have hm2 := hm_freeze hm1 q _ L hq1 rfl b1
  rw [List.set_set] at hm2
  rw [hlen1] at t2
  refine ⟨E1.freeze L.b, w1, hm2, fun k x hx => ?_, by
    rw [List.length_set, deadS_len]; exact (t1.trans t2).less hG⟩
  rw [List.length_set, deadS_len]
  by_cases hk : 0 = k
  · subst hk
    simp only [Regs.get, if_true] at hx ⊢
    cases hx with
    | agg hl h1 hkk =>
      refine .agg hl (fun y hy => ?_) fun k y hy => ?_
      · simp at hy
        rcases hy with rfl | rfl
        · exact ha
        · rfl
      · match k, hy with
        | 0, hy =>
          simp at hy; subst hy
          exact ((hkk 0 _ rfl).trans hm t1).mono (fun _ _ h => .inl h) (fun _ _ _ _ _ h => h) (fun _ _ => rfl) (Nat.le_refl _)
        | 1, hy =>
          simp at hy; subst hy
          have h3 := (hkk 1 _ rfl).trans hm t1
          rw [← hlen1] at h3
          have h4 := seal_row hm1 hq1 h3 b1
          rw [hlen1] at h4
          exact h4
        | k + 2, hy => simp at hy
  · simp only [Regs.get, hk, if_false]
    exact .top
end sound
theorem roL_any {ρ : Nat → Option Nat} : ∀ r : Nat, AV.roL ρ (List.replicate r .any) = List.replicate r .any
  | 0 => rfl
  | r + 1 => by
    rw [List.replicate_succ, AV.roL, roL_any r]
    rfl
theorem boL_any {ρ : Nat → Option Nat} {n : Nat} : ∀ r : Nat, AV.boL ρ n (List.replicate r .any) = true
  | 0 => rfl
  | r + 1 => by
    rw [List.replicate_succ, AV.boL, boL_any r]
    rfl
attribute [simp] roL_any boL_any
end Go.Ab
namespace Go.Ab
open Go
set_option linter.defProp false
theorem ai {a b : Prop} (x : a) (y : b) : a ∧ b := ⟨x, y⟩
def preS := ai pre4 <| ai @aw_skip (ai @aw_cat (ai @aw_tidy (ai @tidyK_exit (ai @tidyK_ret (ai @aw_seq (ai @aw_reg (ai @aw_cond (ai @aw_block (ai @aw_exit (ai @aw_ret (ai @thenK_normal (ai @thenK_exit (ai @thenK_ret (ai @blockK_normal (ai @blockK_exit (ai @blockK_exit' (ai @blockK_ret (ai @ops_nil (ai @ops_f (ai @ops_f0 (ai @ops_t (ai @ops_t0 (ai @ops_fg (ai @opK_mv (ai @opD_mv (ai @opK_pick (ai @opD_pick (ai @opK_nilck (ai @opD_nilck (ai @opK_bin (ai @opD_bin (ai @opK_beq (ai @opD_beq (ai @opK_seq (ai @opD_seq (ai @opK_isn (ai @opD_isn (ai @opK_un (ai @opD_un (ai @opK_cvi (ai @opD_cvi (ai @opK_cvs (ai @opD_cvs (ai @opK_mki (ai @opD_mki (ai @opK_mkf (ai @opD_mkf (ai @opK_slc (ai @opD_slc (ai @opK_sls (ai @opD_sls (ai @opK_fad (ai @opD_fad (ai @opK_fld (ai @opD_fld (ai @opK_iad (ai @opD_iad (ai @opK_iaa (ai @opD_iaa (ai @opK_ixs (ai @opD_ixs (ai @opK_ixa (ai @opD_ixa (ai @opK_ext (ai @opD_ext (ai @opK_lens (ai @opD_lens (ai @opK_lenl (ai @opD_lenl (ai @opK_capl (ai @opD_capl (ai @opK_mm (ai @opD_mm (ai @opK_bld (ai @opD_bld (ai @opK_ld (ai @opD_ld (ai @opK_cbs (ai @opD_cbs (ai @opK_bx (ai @opD_bx (ai @opK_al (ai @opD_al (ai @opK_st (ai @opD_st (ai @opK_bls (ai @opD_bls (ai @opK_mks (ai @opD_mks (ai @opK_app (ai @opD_app (ai @opK_calv (ai @opD_calv (ai @opK_aps (ai @opD_aps (ai @opK_apz (ai @opD_apz (ai @opK_cvb (ai @opD_cvb (ai @opK_csb (ai @opD_csb (ai @opK_pan (ai @opK_call (ai @opD_call (ai @tidyK_pan (ai @thenK_pan (ai @blockK_pan (ai @aw_sch (ai @opK_ldp (ai @opK_isi (ai @opK_tas (ai @opK_st0 (ai @aw_schp (ai @otK_fin (@otK_pre)))))))))))))))))))))))))))))))))))))))))))))))))))))))))))))))))))))))))))))))))))))))))))))))))))))))))))))))))))
def postS := ai @awK_eq (ai @regEnd_nil (ai @regEnd_frz (ai @cK_t (ai @cK_f (ai @gK_tt (ai @gK_ff (ai @gK_tf (ai @gK_ft (ai @gK_u (ai @nxt_int (ai @nxt_bool (ai @nxt_str (ai @nxt_nilp (ai @nxt_nils (ai @nxt_nilf (ai @nxt_nili (ai @nxt_nilm (ai @nxt_sl (ai @nxt_own (ai @nxt_ref (ai @nxt_ip (ai @nxt_agg (ai @nxt_tup (ai @nxt_fn (ai @nxt_ifc (ai @nxt0_tup (ai @nxt0_int (ai @get_here (ai @get_there (ai @ev_tmp (ai @ev_int (ai @ev_bool (ai @ev_str (ai @ev_nils (ai @ev_nilp (ai @ev_nili (ai @ev_nilf (ai @ev_nilm (ai @ev_func (ai @bindV_eq (ai @bindS_eq (ai @bindH_eq (ai @iad_map (ai @ldo_map (ai @iad_own (ai @ldo_box (ai @part_one (ai @U8_cells (ai @panQ_eq (ai @panR_eq (ai @panQ0_eq (ai @bothK_eq (ai @dropR_nil (ai @dropR_t (@dropR_f)))))))))))))))))))))))))))))))))))))))))))))))))))))))
def decS := ai @dlt_t (ai @dlt_f (ai @dle_t (ai @dle_f (ai @dgt_t (ai @dgt_f (ai @dge_t (ai @dge_f (ai @deq_t (ai @deq_f (ai @dne_t (@dne_f)))))))))))
def celS := ai @iad_cons (ai @upd_u8 (ai @upd_u8b (ai @upd_i64 (ai @un_not (ai @un_neg (ai @nil_sl (ai @nil_own (ai @nil_nils (ai @nil_nilp (ai @nil_ref (ai @nil_ip (ai @nil_nilm (ai @nil_mp (ai @nil_nilf (ai @nil_fn (ai @nilV0 (ai @nilV1 (ai @nilV2 (ai @nilV3 (ai @I64_cells (ai @SB_cells (ai @STR_cells (ai @SI_cells (ai @cells_int (ai @cells_bool (ai @cells_str (ai @cells_sl (ai @cells_nils (ai @cells_nilp (ai @cells_nilf (ai @cells_nili (ai @cells_agg (ai @cells_own (ai @cells_ref (ai @cells_fn (ai @cells_ifc (ai @ok_int (ai @ok_bool (ai @ok_str (ai @ok_sl (ai @ok_nils (ai @ok_nilp (ai @ok_nilf (ai @ok_nili (ai @one_int (ai @one_bool (ai @one_str (ai @one_sl (ai @one_nils (ai @one_nilp (ai @one_nilf (ai @one_nili (ai @one_own (ai @one_ref (ai @one_fn (@one_ifc))))))))))))))))))))))))))))))))))))))))))))))))))))))))
def intS := ai @ik_shr_i64 (ai @ik_shl_i64 (ai @ik_lss (ai @ik_leq (ai @ik_gtr (ai @ik_geq (ai @ik_eql (ai @ik_neq (ai @ik_add_i64 (ai @ik_sub_i64 (ai @ik_mul_i64 (ai @ik_quo (ai @ik_rem (ai @cvi_i64 (ai @ik_add_u8 (ai @ik_sub_u8 (ai @ik_mul_u8 (ai @ik_and_u8 (ai @ik_or_u8 (ai @ik_xor_u8 (ai @ik_shr_u8 (ai @ik_shl_u8 (ai @cvi_u8 (ai @un_xor_u8 (ai @eq_u8 (ai @ne_u8 (ai @of_u8 (ai @ik_add_u32 (ai @ik_sub_u32 (ai @ik_mul_u32 (ai @ik_and_u32 (ai @ik_or_u32 (ai @ik_xor_u32 (ai @ik_shr_u32 (ai @ik_shl_u32 (ai @cvi_u32 (ai @un_xor_u32 (ai @eq_u32 (ai @ne_u32 (ai @of_u32 (ai @ik_add_u64 (ai @ik_sub_u64 (ai @ik_mul_u64 (ai @ik_and_u64 (ai @ik_or_u64 (ai @ik_xor_u64 (ai @ik_shr_u64 (ai @ik_shl_u64 (ai @cvi_u64 (ai @un_xor_u64 (ai @eq_u64 (ai @ne_u64 (ai @of_u64 (ai @of_byte32 (ai @of_byte8 (@of_word8)))))))))))))))))))))))))))))))))))))))))))))))))))))))
def resS := ai @retR_ret (ai @retR_normal (ai @resK_nil (ai @resK_t (ai @resK_c (ai @oneL_one @oneL_two)))))
theorem map_drop_r {α β : Type} {f : α → β} {l : List α} {i : Nat} : (l.map f).drop i = (l.drop i).map f := List.map_drop.symm
theorem map_take_r {α β : Type} {f : α → β} {l : List α} {i : Nat} : (l.map f).take i = (l.take i).map f := List.map_take.symm
theorem map_append_r {α β : Type} {f : α → β} {l m : List α} : l.map f ++ m.map f = (l ++ m).map f := List.map_append.symm
def libS := (ai @cbs_map (ai @cbs_nil (ai @List.map_cons.{0, 0} (ai @List.map_nil.{0, 0} (ai @List.flatMap_cons.{0, 0} (ai @List.flatMap_nil.{0, 0} (ai @Bool.false_eq_true (ai @Option.map_some.{0, 0} (ai @Option.map_none.{0, 0} (ai @List.length_nil.{0} (ai @List.length_cons.{0} (ai @List.nil_append.{0} (ai @List.cons_append.{0} (ai @and_true (ai @true_and (ai @or_true (ai @true_or (ai @and_self (ai @List.getElem?_cons_zero.{0} (ai @List.getElem?_cons_succ.{0} (ai @List.set_cons_zero.{0} (ai @List.set_cons_succ.{0} (ai @List.drop_zero.{0} (ai @List.length_map.{0, 0} (ai @List.length_append.{0} (ai @Nat.zero_add (ai @Nat.add_zero (ai @Nat.le_refl (ai @decide_true (ai @decide_false (ai @List.all_cons.{0} (ai @List.all_nil.{0} (ai @Bool.and_true (ai @Bool.and_self (ai @Bool.true_and (ai @Bool.not_false (ai @Bool.not_true (ai @beq_self_eq_true.{0} (ai @List.take_length.{0} (ai @List.take_succ_cons.{0} (ai @List.take_zero.{0} (ai @List.take_nil.{0} (ai @List.drop_succ_cons.{0} (ai @List.drop_nil.{0} (ai @Nat.mul_one (ai @List.replicate_succ.{0} (ai @List.replicate_zero.{0} (ai @wrap_i64 (ai @Int.sub_self (ai @Int.sub_zero (ai @Int.toNat_natCast (ai @List.length_drop.{0} (ai @List.length_take.{0} (ai @false_and (ai @and_false (ai @false_or (ai @or_false (ai @not_false_eq_true (ai @not_true_eq_false (ai @forall_const.{0} (ai @List.getD_cons_zero.{0} (ai @List.getD_cons_succ.{0} (ai @bne_self_eq_false.{0} (ai @List.length_replicate.{0} (ai @Int.natCast_one (ai @Int.natCast_zero (ai @Nat.min_self (ai @Nat.sub_self (ai @map_drop_r (ai @map_take_r @map_append_r))))))))))))))))))))))))))))))))))))))))))))))))))))))))))))))))))))))
theorem part_s {x : AV} {l : List AV} {off n : Nat} {agg : Bool} : partOf (x :: l) (off + 1) n agg = partOf l off n agg := by
  unfold partOf
  simp
theorem part_0f {x : AV} {l : List AV} : partOf (x :: l) 0 1 false = x := rfl
theorem part_0t {x : AV} {l : List AV} {n : Nat} : partOf (x :: l) 0 (n + 1) true = .agg (x :: l.take n) := rfl
def unfS := ai @pickK.eq_1 (ai @pickK.eq_2 (ai @nilckK.eq_1 (ai @nilckK.eq_2 (ai @nilckK.eq_3 (ai @nilckK.eq_4 (ai @binK.eq_1 (ai @binK.eq_2 (ai @binK.eq_3 (ai @beqK.eq_1 (ai @beqK.eq_2 (ai @cvsK.eq_1 (ai @cvsK.eq_2 (ai @slK.eq_1 (ai @slK.eq_2 (ai @slK.eq_3 (ai @slK.eq_4 (ai @bndK.eq_1 (ai @bndK.eq_2 (ai @bndK.eq_3 (ai @slsK.eq_1 (ai @slsK.eq_2 (ai @fadK.eq_1 (ai @fadK.eq_2 (ai @fadK.eq_3 (ai @fldK.eq_1 (ai @fldK.eq_2 (ai @iaaK.eq_1 (ai @iaaK.eq_2 (ai @iaaK.eq_3 (ai @ixsK.eq_1 (ai @ixsK.eq_2 (ai @ixaK.eq_1 (ai @ixaK.eq_2 (ai @extK.eq_1 (ai @extK.eq_2 (ai @lensK.eq_1 (ai @lensK.eq_2 (ai @isiK.eq_1 (ai @isiK.eq_2 (ai @isiK.eq_3 (ai @tasK.eq_1 (ai @tasK.eq_2 (ai @st0K.eq_1 (ai @st0K.eq_2 (ai @ldpK.eq_1 (ai @ldpK.eq_2 (ai @lenlK.eq_1 (ai @lenlK.eq_2 (ai @lenlK.eq_3 (ai @lenlK.eq_4 (ai @caplK.eq_1 (ai @caplK.eq_2 (ai @mmaK.eq_1 (ai @mmaK.eq_2 (ai @bldK.eq_1 (ai @ldK.eq_1 (ai @ldK.eq_2 (ai @ldK.eq_3 (ai @bxK.eq_1 (ai @stoK.eq_1 (ai @stoK.eq_2 (ai @stoK.eq_3 (ai @stK.eq_1 (ai @stK.eq_2 (ai @blsK.eq_1 (ai @mksK.eq_1 (ai @mksK.eq_2 (ai @appK.eq_1 (ai @appK.eq_2 (ai @apzK.eq_1 (ai @apzK.eq_2 (ai @apsK.eq_1 (ai @apsK.eq_2 (ai @calvK.eq_1 (ai @calvK.eq_2 (ai @calvD.eq_1 (ai @calvD.eq_2 (ai @cvbK.eq_1 (ai @cvbK.eq_2 (ai @csbK.eq_1 (ai @csbK.eq_2 (ai @sk.eq_1 (ai @sk.eq_2 (ai @sk.eq_3 (ai @sk.eq_4 (ai @sk.eq_5 (ai @sk.eq_6 (ai @sk.eq_7 (ai @sk.eq_8 (ai @notSl.eq_1 (ai @notSl.eq_2 (ai @killOf.eq_1 (ai @killOf.eq_2 (ai @frzI.eq_1 (ai @frzI.eq_2 (ai @AV.ids.eq_1 (ai @AV.ids.eq_2 (ai @AV.ids1.eq_1 (ai @AV.ids1.eq_2 (ai @AV.ids2.eq_1 (ai @AV.ids2.eq_2 (ai @initR.eq_1 (ai @initR.eq_2 (ai @panK.eq_1 (ai @panK.eq_2 (ai @retQ.eq_1 (ai @retQ.eq_2 (ai @retQ.eq_3 (ai @retQP.eq_1 (ai @retQP.eq_2 (ai @retQP.eq_3 (ai @resAV.eq_1 (ai @resAV.eq_2 (ai @rdS.eq_1 (ai @rdS.eq_2 (ai @rdS.eq_3 (ai @rdS.eq_4 (ai @AV.fz.eq_1 (ai @AV.fz.eq_2 (ai @AV.fz1.eq_1 (ai @AV.fz1.eq_2 (ai @AV.fz2.eq_1 (ai @AV.fz2.eq_2 (ai @AV.el.eq_1 (ai @fillEl.eq_1 @fillEl.eq_2)))))))))))))))))))))))))))))))))))))))))))))))))))))))))))))))))))))))))))))))))))))))))))))))))))))))))))))))))))))))))))))
section
variable {k : IntKind} {n : Int} {b t : Bool} {s : List UInt8} {z i j o d w : Nat} {l m e : List AV} {f : Fn} {q : TypeId} {x : AV} {H : List AO}
theorem u1 : AV.ids1 (.int k n) = [] := rfl
theorem u2 : AV.ids2 (.int k n) = [] := rfl
theorem u3 : AV.ids (.int k n) = [] := rfl
theorem u4 : AV.fz1 d w e (.int k n) = (.int k n) := rfl
theorem u5 : AV.fz2 d w e (.int k n) = (.int k n) := rfl
theorem u6 : AV.fz d w e (.int k n) = (.int k n) := rfl
theorem u7 : notSl (.int k n) = true := rfl
theorem u8 : killOf H (.int k n) = H := rfl
theorem u9 : AV.ids1 (.bool b) = [] := rfl
theorem u10 : AV.ids2 (.bool b) = [] := rfl
theorem u11 : AV.ids (.bool b) = [] := rfl
theorem u12 : AV.fz1 d w e (.bool b) = (.bool b) := rfl
theorem u13 : AV.fz2 d w e (.bool b) = (.bool b) := rfl
theorem u14 : AV.fz d w e (.bool b) = (.bool b) := rfl
theorem u15 : notSl (.bool b) = true := rfl
theorem u16 : killOf H (.bool b) = H := rfl
theorem u17 : AV.ids1 (.str s) = [] := rfl
theorem u18 : AV.ids2 (.str s) = [] := rfl
theorem u19 : AV.ids (.str s) = [] := rfl
theorem u20 : AV.fz1 d w e (.str s) = (.str s) := rfl
theorem u21 : AV.fz2 d w e (.str s) = (.str s) := rfl
theorem u22 : AV.fz d w e (.str s) = (.str s) := rfl
theorem u23 : notSl (.str s) = true := rfl
theorem u24 : killOf H (.str s) = H := rfl
theorem u25 : AV.ids1 (.nilp) = [] := rfl
theorem u26 : AV.ids2 (.nilp) = [] := rfl
theorem u27 : AV.ids (.nilp) = [] := rfl
theorem u28 : AV.fz1 d w e (.nilp) = (.nilp) := rfl
theorem u29 : AV.fz2 d w e (.nilp) = (.nilp) := rfl
theorem u30 : AV.fz d w e (.nilp) = (.nilp) := rfl
theorem u31 : notSl (.nilp) = true := rfl
theorem u32 : killOf H (.nilp) = H := rfl
theorem u33 : AV.ids1 (.nils) = [] := rfl
theorem u34 : AV.ids2 (.nils) = [] := rfl
theorem u35 : AV.ids (.nils) = [] := rfl
theorem u36 : AV.fz1 d w e (.nils) = (.nils) := rfl
theorem u37 : AV.fz2 d w e (.nils) = (.nils) := rfl
theorem u38 : AV.fz d w e (.nils) = (.nils) := rfl
theorem u39 : notSl (.nils) = true := rfl
theorem u40 : killOf H (.nils) = H := rfl
theorem u41 : AV.ids1 (.nilf) = [] := rfl
theorem u42 : AV.ids2 (.nilf) = [] := rfl
theorem u43 : AV.ids (.nilf) = [] := rfl
theorem u44 : AV.fz1 d w e (.nilf) = (.nilf) := rfl
theorem u45 : AV.fz2 d w e (.nilf) = (.nilf) := rfl
theorem u46 : AV.fz d w e (.nilf) = (.nilf) := rfl
theorem u47 : notSl (.nilf) = true := rfl
theorem u48 : killOf H (.nilf) = H := rfl
theorem u49 : AV.ids1 (.nili) = [] := rfl
theorem u50 : AV.ids2 (.nili) = [] := rfl
theorem u51 : AV.ids (.nili) = [] := rfl
theorem u52 : AV.fz1 d w e (.nili) = (.nili) := rfl
theorem u53 : AV.fz2 d w e (.nili) = (.nili) := rfl
theorem u54 : AV.fz d w e (.nili) = (.nili) := rfl
theorem u55 : notSl (.nili) = true := rfl
theorem u56 : killOf H (.nili) = H := rfl
theorem u57 : AV.ids1 (.nilm) = [] := rfl
theorem u58 : AV.ids2 (.nilm) = [] := rfl
theorem u59 : AV.ids (.nilm) = [] := rfl
theorem u60 : AV.fz1 d w e (.nilm) = (.nilm) := rfl
theorem u61 : AV.fz2 d w e (.nilm) = (.nilm) := rfl
theorem u62 : AV.fz d w e (.nilm) = (.nilm) := rfl
theorem u63 : notSl (.nilm) = true := rfl
theorem u64 : killOf H (.nilm) = H := rfl
theorem u65 : AV.ids1 (.sl t z l) = [] := rfl
theorem u66 : AV.ids2 (.sl t z l) = [] := rfl
theorem u67 : AV.ids (.sl t z l) = [] := rfl
theorem u68 : AV.fz1 d w e (.sl t z l) = (.sl t z l) := rfl
theorem u69 : AV.fz2 d w e (.sl t z l) = (.sl t z l) := rfl
theorem u70 : AV.fz d w e (.sl t z l) = (.sl t z l) := rfl
theorem u71 : notSl (.sl t z l) = false := rfl
theorem u72 : killOf H (.sl t z l) = H := rfl
theorem u73 : AV.ids1 (.own i z o j) = [i] := rfl
theorem u74 : AV.ids2 (.own i z o j) = [i] := rfl
theorem u75 : AV.ids (.own i z o j) = [i] := rfl
theorem u76 : AV.fz1 d w e (.own i z o j) = if i = d ∧ z = w ∧ o + j ≤ e.length then .sl false w ((e.drop o).take j) else (.own i z o j) := rfl
theorem u77 : AV.fz2 d w e (.own i z o j) = if i = d ∧ z = w ∧ o + j ≤ e.length then .sl false w ((e.drop o).take j) else (.own i z o j) := rfl
theorem u78 : AV.fz d w e (.own i z o j) = if i = d ∧ z = w ∧ o + j ≤ e.length then .sl false w ((e.drop o).take j) else (.own i z o j) := rfl
theorem u79 : notSl (.own i z o j) = true := rfl
theorem u80 : killOf H (.own i z o j) = H.set i .dead := rfl
theorem u81 : AV.ids1 (.ref i j o) = [] := rfl
theorem u82 : AV.ids2 (.ref i j o) = [] := rfl
theorem u83 : AV.ids (.ref i j o) = [] := rfl
theorem u84 : AV.fz1 d w e (.ref i j o) = (.ref i j o) := rfl
theorem u85 : AV.fz2 d w e (.ref i j o) = (.ref i j o) := rfl
theorem u86 : AV.fz d w e (.ref i j o) = (.ref i j o) := rfl
theorem u87 : notSl (.ref i j o) = true := rfl
theorem u88 : killOf H (.ref i j o) = H := rfl
theorem u89 : AV.ids1 (.ip t l) = [] := rfl
theorem u90 : AV.ids2 (.ip t l) = [] := rfl
theorem u91 : AV.ids (.ip t l) = [] := rfl
theorem u92 : AV.fz1 d w e (.ip t l) = (.ip t l) := rfl
theorem u93 : AV.fz2 d w e (.ip t l) = (.ip t l) := rfl
theorem u94 : AV.fz d w e (.ip t l) = (.ip t l) := rfl
theorem u95 : notSl (.ip t l) = true := rfl
theorem u96 : killOf H (.ip t l) = H := rfl
theorem u97 : AV.ids1 (.agg l) = [] := rfl
theorem u98 : AV.ids2 (.agg l) = l.flatMap AV.ids1 := rfl
theorem u99 : AV.ids (.agg l) = l.flatMap AV.ids1 := rfl
theorem u100 : AV.fz1 d w e (.agg l) = (.agg l) := rfl
theorem u101 : AV.fz2 d w e (.agg l) = .agg (l.map (AV.fz1 d w e)) := rfl
theorem u102 : AV.fz d w e (.agg l) = .agg (l.map (AV.fz1 d w e)) := rfl
theorem u103 : notSl (.agg l) = true := rfl
theorem u104 : killOf H (.agg l) = H := rfl
theorem u105 : AV.ids1 (.tup l) = [] := rfl
theorem u106 : AV.ids2 (.tup l) = [] := rfl
theorem u107 : AV.ids (.tup l) = l.flatMap AV.ids2 := rfl
theorem u108 : AV.fz1 d w e (.tup l) = (.tup l) := rfl
theorem u109 : AV.fz2 d w e (.tup l) = (.tup l) := rfl
theorem u110 : AV.fz d w e (.tup l) = .tup (l.map (AV.fz2 d w e)) := rfl
theorem u111 : notSl (.tup l) = true := rfl
theorem u112 : killOf H (.tup l) = H := rfl
theorem u113 : AV.ids1 (.fn f l m) = [] := rfl
theorem u114 : AV.ids2 (.fn f l m) = [] := rfl
theorem u115 : AV.ids (.fn f l m) = [] := rfl
theorem u116 : AV.fz1 d w e (.fn f l m) = (.fn f l m) := rfl
theorem u117 : AV.fz2 d w e (.fn f l m) = (.fn f l m) := rfl
theorem u118 : AV.fz d w e (.fn f l m) = (.fn f l m) := rfl
theorem u119 : notSl (.fn f l m) = true := rfl
theorem u120 : killOf H (.fn f l m) = H := rfl
theorem u121 : AV.ids1 (.ifc q x) = [] := rfl
theorem u122 : AV.ids2 (.ifc q x) = [] := rfl
theorem u123 : AV.ids (.ifc q x) = [] := rfl
theorem u124 : AV.fz1 d w e (.ifc q x) = (.ifc q x) := rfl
theorem u125 : AV.fz2 d w e (.ifc q x) = (.ifc q x) := rfl
theorem u126 : AV.fz d w e (.ifc q x) = (.ifc q x) := rfl
theorem u127 : notSl (.ifc q x) = true := rfl
theorem u128 : killOf H (.ifc q x) = H := rfl
theorem u129 : AV.ids1 (.mp i) = [] := rfl
theorem u130 : AV.ids2 (.mp i) = [] := rfl
theorem u131 : AV.ids (.mp i) = [] := rfl
theorem u132 : AV.fz1 d w e (.mp i) = (.mp i) := rfl
theorem u133 : AV.fz2 d w e (.mp i) = (.mp i) := rfl
theorem u134 : AV.fz d w e (.mp i) = (.mp i) := rfl
theorem u135 : notSl (.mp i) = true := rfl
theorem u136 : killOf H (.mp i) = H := rfl
theorem u137 : AV.ids1 (.it i) = [] := rfl
theorem u138 : AV.ids2 (.it i) = [] := rfl
theorem u139 : AV.ids (.it i) = [] := rfl
theorem u140 : AV.fz1 d w e (.it i) = (.it i) := rfl
theorem u141 : AV.fz2 d w e (.it i) = (.it i) := rfl
theorem u142 : AV.fz d w e (.it i) = (.it i) := rfl
theorem u143 : notSl (.it i) = true := rfl
theorem u144 : killOf H (.it i) = H := rfl
theorem u145 : AV.ids1 (.top) = [] := rfl
theorem u146 : AV.ids2 (.top) = [] := rfl
theorem u147 : AV.ids (.top) = [] := rfl
theorem u148 : AV.fz1 d w e (.top) = (.top) := rfl
theorem u149 : AV.fz2 d w e (.top) = (.top) := rfl
theorem u150 : AV.fz d w e (.top) = (.top) := rfl
theorem u151 : notSl (.top) = true := rfl
theorem u152 : killOf H (.top) = H := rfl
variable {rs : List Nat} {Q R : AV → List AO → Prop} {S : St} {r : Nat → AV}
theorem u153 : retQ rs Q .normal S = Q (resAV rs S.r.get) S.H := rfl
theorem u154 : retQ rs Q .ret S = Q (resAV rs S.r.get) S.H := rfl
theorem u155 : retQP rs Q R .normal S = Q (resAV rs S.r.get) S.H := rfl
theorem u156 : retQP rs Q R .ret S = Q (resAV rs S.r.get) S.H := rfl
theorem u157 : resAV [] r = .tup [] := rfl
theorem u158 : resAV (i :: j :: rs) r = .tup ((i :: j :: rs).map r) := rfl
end
def unfT := ai @u1 (ai @u2 (ai @u3 (ai @u4 (ai @u5 (ai @u6 (ai @u7 (ai @u8 (ai @u9 (ai @u10 (ai @u11 (ai @u12 (ai @u13 (ai @u14 (ai @u15 (ai @u16 (ai @u17 (ai @u18 (ai @u19 (ai @u20 (ai @u21 (ai @u22 (ai @u23 (ai @u24 (ai @u25 (ai @u26 (ai @u27 (ai @u28 (ai @u29 (ai @u30 (ai @u31 (ai @u32 (ai @u33 (ai @u34 (ai @u35 (ai @u36 (ai @u37 (ai @u38 (ai @u39 (ai @u40 (ai @u41 (ai @u42 (ai @u43 (ai @u44 (ai @u45 (ai @u46 (ai @u47 (ai @u48 (ai @u49 (ai @u50 (ai @u51 (ai @u52 (ai @u53 (ai @u54 (ai @u55 (ai @u56 (ai @u57 (ai @u58 (ai @u59 (ai @u60 (ai @u61 (ai @u62 (ai @u63 (ai @u64 (ai @u65 (ai @u66 (ai @u67 (ai @u68 (ai @u69 (ai @u70 (ai @u71 (ai @u72 (ai @u73 (ai @u74 (ai @u75 (ai @u76 (ai @u77 (ai @u78 (ai @u79 (ai @u80 (ai @u81 (ai @u82 (ai @u83 (ai @u84 (ai @u85 (ai @u86 (ai @u87 (ai @u88 (ai @u89 (ai @u90 (ai @u91 (ai @u92 (ai @u93 (ai @u94 (ai @u95 (ai @u96 (ai @u97 (ai @u98 (ai @u99 (ai @u100 (ai @u101 (ai @u102 (ai @u103 (ai @u104 (ai @u105 (ai @u106 (ai @u107 (ai @u108 (ai @u109 (ai @u110 (ai @u111 (ai @u112 (ai @u113 (ai @u114 (ai @u115 (ai @u116 (ai @u117 (ai @u118 (ai @u119 (ai @u120 (ai @u121 (ai @u122 (ai @u123 (ai @u124 (ai @u125 (ai @u126 (ai @u127 (ai @u128 (ai @u129 (ai @u130 (ai @u131 (ai @u132 (ai @u133 (ai @u134 (ai @u135 (ai @u136 (ai @u137 (ai @u138 (ai @u139 (ai @u140 (ai @u141 (ai @u142 (ai @u143 (ai @u144 (ai @u145 (ai @u146 (ai @u147 (ai @u148 (ai @u149 (ai @u150 (ai @u151 (ai @u152 (ai @u153 (ai @u154 (ai @u155 (ai @u156 (ai @u157 @u158))))))))))))))))))))))))))))))))))))))))))))))))))))))))))))))))))))))))))))))))))))))))))))))))))))))))))))))))))))))))))))))))))))))))))))))))))))))))))))
theorem v1 : AV.ids1 .any = [] := rfl
theorem v2 : AV.ids2 .any = [] := rfl
theorem v3 : AV.ids .any = [] := rfl
theorem v4 {d w : Nat} {e : List AV} : AV.fz1 d w e .any = .any := rfl
theorem v5 {d w : Nat} {e : List AV} : AV.fz2 d w e .any = .any := rfl
theorem v6 {d w : Nat} {e : List AV} : AV.fz d w e .any = .any := rfl
def allS := ai (ai @v1 (ai @v2 (ai @v3 (ai @v4 (ai @v5 @v6))))) <| ai post4 <| ai unfS <| ai unfT <| ai (ai @part_s (ai @part_0f @part_0t)) <| ai postS (ai intS (ai celS (ai resS libS)))
end Go.Ab
