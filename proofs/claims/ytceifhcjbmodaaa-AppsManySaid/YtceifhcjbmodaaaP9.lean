/- What functions of the program compute. No condition. -/
import Derived.Test.YtceifhcjbmodaaaP8
set_option linter.unusedSimpArgs false
set_option linter.unusedVariables false
namespace Go.Proofs.Ytceifhcjbmodaaa
open Go Go.Ab

/-! ### Submit -/
theorem in_ok (a b c : Int) (h : b ≤ a ∧ a ≤ c) : PCall Try.prog 14 [.int .i64 a, .int .i64 b, .int .i64 c] (.bool true) := by
  unfold PCall
  refine acall_of is14 (by simp) ?_
  unfold cc14
  simp -implicitDefEqProofs (maxSteps := 500000) (disch := first | decide | omega) only [↓preS, ↓reduceIte, allS, Nat.reduceBEq, Nat.reduceAdd, Nat.reduceEqDiff, reduceIte, Int.reduceToNat, Int.reduceLE, Int.reduceLT, Nat.reduceLeDiff, Nat.reduceMul, Nat.reducePow, Nat.reduceLT, Int.reduceBEq, Int.reduceBNe, Int.reduceAdd, Int.reduceSub, Int.reduceMul, Int.reduceGT, Int.reduceGE, decS, Int.reduceNe, Int.reduceEq]
structure AIn (a : App) : Prop where
  i0 : 0 ≤ a.id
  i9 : a.id ≤ 9999
  u0 : 0 ≤ a.user
  u9 : a.user ≤ 99
  p0 : 0 ≤ a.prio
  p9 : a.prio ≤ 9
  m1 : 1 ≤ a.mem
  m9 : a.mem ≤ 1073741824
  c1 : 1 ≤ a.cores
  c9 : a.cores ≤ 1073741824
def newA (now : Int) (a : App) : App := ⟨a.id, 1, a.queue, a.user, a.prio, a.mem, a.cores, [⟨0, 0, a.mem, a.cores, 1, -1, -1, 0⟩], now, 0, [], [], [], []⟩
def delK (k : Nat) (l : List App) : List App := l.take k ++ l.drop (k + 1)
def makeRoom (l : List App) : List App := let k := idxI (fun a => !liveP a) l; if 16 ≤ l.length ∧ 0 ≤ k then delK k.toNat l else l
def submitF (s : Sta) (a : App) : Sta × Int :=
  if 0 ≤ idxI (idP a.id) s.apps then (s, 7)
  else if 16 ≤ manyN s.apps then (s, 4)
  else if leafP a.queue s.qs = false then (s, 19)
  else ({ s with apps := putL (newA s.now a) (makeRoom s.apps) }, 0)
def ZAP : AV := .agg [.int .i64 0, .int .i64 0, .str [], .int .i64 0, .int .i64 0, .int .i64 0, .int .i64 0, .nils, .int .i64 0, .int .i64 0, .nils, .nils, .nils, .nils]
theorem hm_shrink {E : Env} {H : List AO} {id z : Nat} {l zs : List AV} (hm : HM E H) (h : H[id]? = some (.arr z (l ++ zs))) : HM E (H.set id (.arr z l)) := by
  have hid := (List.getElem?_eq_some_iff.1 h).1
  have ho := hm.obj id _ h
  have get : ∀ k ok, (H.set id (.arr z l))[k]? = some ok → (k = id ∧ ok = .arr z l) ∨ (k ≠ id ∧ H[k]? = some ok) := fun k ok hk => by
    by_cases e : k = id
    · subst e
      rw [List.getElem?_set_self hid] at hk
      cases hk
      exact .inl ⟨rfl, rfl⟩
    · rw [List.getElem?_set_ne (by omega)] at hk
      exact .inr ⟨e, hk⟩
  refine ⟨fun k ok hk => ?_, fun i j oi oj Li Lj hij hi hj hli hlj hμi hμj => ?_, hm.disj, hm.bound, hm.sbound, hm.sub⟩
  · rw [List.length_set]
    rcases get k ok hk with ⟨rfl, rfl⟩ | ⟨e, hk⟩
    · rcases ho with ⟨h1, h2⟩ | ⟨L, u, t, fz, h1, h2, h3, h4, h5, h6, h7, h8, h9, h10, h11⟩
      · exact .inl ⟨h1, (List.append_eq_nil_iff.1 h2).1⟩
      · have hle : l.length * z ≤ (l ++ zs).length * z := Nat.mul_le_mul_right _ (by simp)
        refine .inr ⟨L, u, t, fz, h1, h2, h3, by omega, h5, h6, h7, fun a ha => h8 a (List.mem_append_left _ ha), fun q y hq => h9 q y ?_, fun q hq1 hq2 => arr_one h8 h9 h10 q (by omega) hq2, h11⟩
        rw [flat_append, List.getElem?_append_left (List.getElem?_eq_some_iff.1 hq).1]
        exact hq
    · exact hm.obj k ok hk
  · rcases get i oi hi with ⟨rfl, rfl⟩ | ⟨e, hi2⟩ <;> rcases get j oj hj with ⟨rfl, rfl⟩ | ⟨e', hj2⟩
    · exact absurd rfl hij
    · exact hm.inj i j _ oj Li Lj hij h hj2 rfl hlj hμi hμj
    · exact hm.inj i j oi _ Li Lj hij hi2 h hli rfl hμi hμj
    · exact hm.inj i j oi oj Li Lj hij hi2 hj2 hli hlj hμi hμj
theorem _root_.Go.Ab.ACall.cutZ {P : Program} {f : FuncId} {args : List AV} {H : List AO} {y0 : AV} {z : Nat} {l : List AV} (h : ACall P f args H fun y G => y = y0 ∧ ∃ zs, G = [.arr z (l ++ zs)]) : ACall P f args H fun y G => y = y0 ∧ G = [.arr z l] := by
  refine ⟨h.1, fun E vs hm hl hv => (h.2 E vs hm hl hv).mono fun e w' ⟨v, y, H', E', h1, h2, h3, h4, h5, h6, zs, h7⟩ => ?_⟩
  subst h7
  have := hm_shrink (id := 0) h4 rfl
  exact ⟨v, y, [.arr z l], E', h1, h2, h3, this, h5, h6, rfl⟩
set_option maxHeartbeats 1000000 in
/-- slices.Delete. -/
theorem del_ok0 (l : List App) (i j : Nat) (hij : i ≤ j) (hj : j ≤ l.length) (hl : l.length ≤ 2 ^ 36) : ACall Try.prog 20 [.own 0 14 0 l.length, .int .i64 i, .int .i64 j] [.arr 14 (l.map APP)] fun y G => y = .own 0 14 0 (i + (l.length - j)) ∧ ∃ zs : List AV, G = [.arr 14 ((l.take i ++ l.drop j).map APP ++ zs)] := by
  refine acall_at is20 (by simp) rfl ?_
  unfold cc20
  by_cases he : i = j
  · subst he
    simp -implicitDefEqProofs (maxSteps := 500000) (disch := first | decide | omega) only [↓preS, ↓reduceIte, allS, Nat.reduceBEq, Nat.reduceAdd, Nat.reduceEqDiff, reduceIte, Int.reduceToNat, Int.reduceLE, Int.reduceLT, Nat.reduceLeDiff, Nat.reduceMul, Nat.reducePow, Nat.reduceLT, Int.reduceBEq, Int.reduceBNe, Int.reduceAdd, Int.reduceSub, Int.reduceMul, Int.reduceGT, Int.reduceGE, decS, Int.reduceNe, Int.reduceEq, bndK_int]
    refine ⟨by omega, by omega, hj, by omega, by congr 1; omega, [], ?_⟩
    rw [List.append_nil, List.take_append_drop]
  · have hne : ¬ ((i : Int) = (j : Int)) := by omega
    have hjc : j + (l.length - j) ≤ l.length := by omega
    have htk : (l.drop j).take (l.length - j) = l.drop j := List.take_of_length_le (by simp)
    simp -implicitDefEqProofs (maxSteps := 500000) (disch := first | decide | omega) only [↓preS, ↓reduceIte, allS, Nat.reduceBEq, Nat.reduceAdd, Nat.reduceEqDiff, reduceIte, Int.reduceToNat, Int.reduceLE, Int.reduceLT, Nat.reduceLeDiff, Nat.reduceMul, Nat.reducePow, Nat.reduceLT, Int.reduceBEq, Int.reduceBNe, Int.reduceAdd, Int.reduceSub, Int.reduceMul, Int.reduceGT, Int.reduceGE, decS, Int.reduceNe, Int.reduceEq, bndK_int, Nat.sub_zero, hjc, htk]
    refine ⟨by omega, by omega, hj, by omega, hij, by omega, by omega, by omega, by omega, hj, by omega, by omega, by omega, by omega, by omega, by omega, List.replicate (j - i) ZAP, ?_⟩
    have e1 : (l.take i ++ l.drop j).length = i + (l.length - j) := by simp; omega
    have e2 : (l.take i ++ l.drop j ++ l.drop (i + (l.length - j))).take (i + (l.length - j)) = l.take i ++ l.drop j := by
      rw [← e1, List.take_left']
      rfl
    have e3 : (l.take i ++ l.drop j ++ l.drop (i + (l.length - j))).drop (i + (l.length - j) + (l.length - (i + (l.length - j)))) = [] := List.drop_eq_nil_of_le (by simp; omega)
    have e4 : l.length - (i + (l.length - j)) = j - i := by omega
    rw [e2, e3, e4, List.map_nil, List.append_nil, List.map_append]
    rfl

theorem del_ok (l : List App) (k : Nat) (hk : k < l.length) (hl : l.length ≤ 2 ^ 36) : ACall Try.prog 20 [.own 0 14 0 l.length, .int .i64 k, .int .i64 ((k : Int) + 1)] [.arr 14 (l.map APP)] fun y G => y = .own 0 14 0 (delK k l).length ∧ G = [.arr 14 ((delK k l).map APP)] := by
  have h := (del_ok0 l k (k + 1) (by omega) (by omega) hl).cutZ
  have e : (delK k l).length = k + (l.length - (k + 1)) := by simp [delK]; omega
  rw [e]
  have e2 : (((k + 1 : Nat)) : Int) = (k : Int) + 1 := by omega
  rw [e2] at h
  exact h
theorem _root_.Go.Ab.ACall.wkArg {P : Program} {f : FuncId} {x a a' : AV} {H : List AO} {Post : AV → List AO → Prop} (h : ACall P f [x, a'] H Post) (hw : Wk3 a a') : ACall P f [x, a] H Post :=
  ⟨h.1, fun E vs hm hl hv => h.2 E vs hm hl fun k y hk => by
    match k, hk with
    | 0, hk => simp only [List.getElem?_cons_zero, Option.some.injEq] at hk; subst hk; exact hv 0 _ rfl
    | 1, hk => simp only [List.getElem?_cons_succ, List.getElem?_cons_zero, Option.some.injEq] at hk; subst hk; exact hw.vr (hv 1 _ rfl)
    | k + 2, hk => simp at hk⟩
theorem bor_conf {H : List AO} {i n : Nat} {ls : List (List UInt8)} {qs : List Queue} (h : H[i]? = some (.arr 3 (qs.map QUE))) (hn : n = qs.length) :
    Vw true H (.agg [.sl false 1 (ls.map AV.str), .own i 3 0 n]) (CONF false true ls qs) := by
  subst hn
  have e : bor H (.agg [.sl false 1 (ls.map AV.str), .own i 3 0 qs.length]) = CONF false true ls qs := by
    simp [bor, bor1, CONF, rdS, h, List.take_of_length_le]
  have := Vw.bor (H := H) (a := .agg [.sl false 1 (ls.map AV.str), .own i 3 0 qs.length]) (by rw [e]; rfl)
  rwa [e] at this
def FF : Fl := ⟨false, false, false, false, false, false, false⟩
def nilA (id : Int) (q : List UInt8) (us pr m c now : Int) (A : AV) : AV := .agg [.int .i64 id, .int .i64 1, .str q, .int .i64 us, .int .i64 pr, .int .i64 m, .int .i64 c, A, .int .i64 now, .int .i64 0, .nils, .nils, .nils, .nils]
def preA (id : Int) (q : List UInt8) (us pr m c now : Int) (l : List Ask) : App := ⟨id, 1, q, us, pr, m, c, l, now, 0, [], [], [], []⟩
theorem wkP (id : Int) (q : List UInt8) (us pr m c now : Int) : Wk3 (nilA id q us pr m c now .nils) (APP (preA id q us pr m c now [])) := by
  refine .inl (.inr ⟨_, _, rfl, rfl, ?_⟩)
  simp [preA, appC, WkL, Wk1]
theorem wkN (id : Int) (q : List UInt8) (us pr m c now : Int) (l : List Ask) : Wk3 (nilA id q us pr m c now (.sl false 8 (l.map ASK))) (APP (preA id q us pr m c now l)) := by
  refine .inl (.inr ⟨_, _, rfl, rfl, ?_⟩)
  simp [preA, appC, WkL, Wk1]
set_option maxRecDepth 20000 in
set_option maxHeartbeats 16000000 in
theorem submit_rest (ls : List (List UInt8)) (qs : List Queue) (nodes : List Node) (apps : List App) (conts : List Cont) (slots : List Slot) (plans : List Plan) (now ep sq : Int) (a : App) (x6 : Int) (b73 : Bool) (hl : apps.length ≤ 2 ^ 35) (Post : AV → List AO → Prop)
    (hp : ∀ G, Post (.tup [.agg (stC FF ⟨ls, qs, nodes, putL (newA now a) apps, conts, slots, plans, now, ep, sq⟩), .int .i64 0]) G) :
    aw Try.prog cc9T81 (retR [.ce 4 34 10 true, .tm 5] Post) ⟨[(2, .ref 0 0 0), (3, .ref 1 0 0), (4, .ref 2 0 0), (6, .int .i64 x6), (73, .bool b73)], [.box (owC ⟨ls, qs, nodes, apps, conts, slots, plans, now, ep, sq⟩ 3 6 4 5), .box (appC a), .box NL, .arr 3 (qs.map QUE), .arr 9 (conts.map CONT), .arr 3 (slots.map SLOT), .arr 14 (apps.map APP)]⟩ := by
  unfold cc9T81 owC NL
  have c1 := first_ok (preA a.id a.queue a.user a.prio a.mem a.cores now [])
  have c2 := put_ok ⟨ls, qs, nodes, apps, conts, slots, plans, now, ep, sq⟩ hl (newA now a)
  have w2 := wkN a.id a.queue a.user a.prio a.mem a.cores now [⟨0, 0, a.mem, a.cores, 1, -1, -1, 0⟩]
  simp -implicitDefEqProofs (maxSteps := 500000) (disch := first | decide | omega) only [↓preS, ↓reduceIte, allS, Nat.reduceBEq, Nat.reduceAdd, Nat.reduceEqDiff, reduceIte, Int.reduceToNat, Int.reduceLE, Int.reduceLT, Nat.reduceLeDiff, Nat.reduceMul, Nat.reducePow, Nat.reduceLT, Int.reduceBEq, Int.reduceBNe, Int.reduceAdd, Int.reduceSub, Int.reduceMul, Int.reduceGT, Int.reduceGE, decS, Int.reduceNe, Int.reduceEq, appS, appD, fillOk, fillAV, List.append_nil]
  refine acK_of (FCall.of (lent := false) c1 (.cons (Vw.wk (wkP a.id a.queue a.user a.prio a.mem a.cores now) rfl) .nil) rfl (by simp)) ?_
  simp -implicitDefEqProofs (maxSteps := 500000) (disch := first | decide | omega) only [↓preS, ↓reduceIte, allS, Nat.reduceBEq, Nat.reduceAdd, Nat.reduceEqDiff, reduceIte, Int.reduceToNat, Int.reduceLE, Int.reduceLT, Nat.reduceLeDiff, Nat.reduceMul, Nat.reducePow, Nat.reduceLT, Int.reduceBEq, Int.reduceBNe, Int.reduceAdd, Int.reduceSub, Int.reduceMul, Int.reduceGT, Int.reduceGE, decS, Int.reduceNe, Int.reduceEq]
  have c3 := c2.wkArg (a := nilA a.id a.queue a.user a.prio a.mem a.cores now (.sl false 8 [ASK ⟨0, 0, a.mem, a.cores, 1, -1, -1, 0⟩])) w2
  unfold four owC at c3
  simp only at c3
  refine (c3.frame [3, 4, 5, 6] rfl (by simp) (by simp) ?_ rfl).to ?_
  · intro k o hk
    match k, hk with
    | 0, hk => simp only [List.getElem?_cons_zero, Option.some.injEq] at hk; subst hk; exact ⟨rfl, rfl⟩
    | 1, hk => simp only [List.getElem?_cons_succ, List.getElem?_cons_zero, Option.some.injEq] at hk; subst hk; exact ⟨rfl, rfl⟩
    | 2, hk => simp only [List.getElem?_cons_succ, List.getElem?_cons_zero, Option.some.injEq] at hk; subst hk; exact ⟨rfl, rfl⟩
    | 3, hk => simp only [List.getElem?_cons_succ, List.getElem?_cons_zero, Option.some.injEq] at hk; subst hk; exact ⟨rfl, rfl⟩
    | k + 4, hk => simp at hk
  rintro y G ⟨y0, Hr, ⟨A, hA, rfl, o, G', rfl, ho⟩, rfl, rfl⟩
  rcases hA with rfl | rfl
  · simp -implicitDefEqProofs (maxSteps := 500000) (disch := first | decide | omega) only [↓preS, ↓reduceIte, allS, Nat.reduceBEq, Nat.reduceAdd, Nat.reduceEqDiff, reduceIte, Int.reduceToNat, Int.reduceLE, Int.reduceLT, Nat.reduceLeDiff, Nat.reduceMul, Nat.reducePow, Nat.reduceLT, Int.reduceBEq, Int.reduceBNe, Int.reduceAdd, Int.reduceSub, Int.reduceMul, Int.reduceGT, Int.reduceGE, decS, Int.reduceNe, Int.reduceEq, AV.ren, AV.renL, AO.ren, spl, setAll, afC, ext]
    exact hp _
  · obtain rfl := ho rfl
    simp -implicitDefEqProofs (maxSteps := 500000) (disch := first | decide | omega) only [↓preS, ↓reduceIte, allS, Nat.reduceBEq, Nat.reduceAdd, Nat.reduceEqDiff, reduceIte, Int.reduceToNat, Int.reduceLE, Int.reduceLT, Nat.reduceLeDiff, Nat.reduceMul, Nat.reducePow, Nat.reduceLT, Int.reduceBEq, Int.reduceBNe, Int.reduceAdd, Int.reduceSub, Int.reduceMul, Int.reduceGT, Int.reduceGE, decS, Int.reduceNe, Int.reduceEq, AV.ren, AV.renL, AO.ren, spl, setAll, afC, ext]
    exact hp _
set_option maxRecDepth 20000 in
set_option maxHeartbeats 16000000 in
theorem submit_rest2 (ls : List (List UInt8)) (qs : List Queue) (nodes : List Node) (apps : List App) (conts : List Cont) (slots : List Slot) (plans : List Plan) (now ep sq : Int) (a : App) (hl : apps.length ≤ 2 ^ 35) (Post : AV → List AO → Prop)
    (hp : ∀ G, Post (.tup [.agg (stC FF ⟨ls, qs, nodes, putL (newA now a) apps, conts, slots, plans, now, ep, sq⟩), .int .i64 0]) G) :
    aw Try.prog cc9T81 (retR [.ce 4 34 10 true, .tm 5] Post) ⟨[(2, .ref 0 0 0), (3, .ref 1 0 0), (4, .ref 2 0 0)], [.box (owC ⟨ls, qs, nodes, apps, conts, slots, plans, now, ep, sq⟩ 3 6 4 5), .box (appC a), .box NL, .arr 3 (qs.map QUE), .arr 9 (conts.map CONT), .arr 3 (slots.map SLOT), .arr 14 (apps.map APP)]⟩ := by
  unfold cc9T81 owC NL
  have c1 := first_ok (preA a.id a.queue a.user a.prio a.mem a.cores now [])
  have c2 := put_ok ⟨ls, qs, nodes, apps, conts, slots, plans, now, ep, sq⟩ hl (newA now a)
  have w2 := wkN a.id a.queue a.user a.prio a.mem a.cores now [⟨0, 0, a.mem, a.cores, 1, -1, -1, 0⟩]
  simp -implicitDefEqProofs (maxSteps := 500000) (disch := first | decide | omega) only [↓preS, ↓reduceIte, allS, Nat.reduceBEq, Nat.reduceAdd, Nat.reduceEqDiff, reduceIte, Int.reduceToNat, Int.reduceLE, Int.reduceLT, Nat.reduceLeDiff, Nat.reduceMul, Nat.reducePow, Nat.reduceLT, Int.reduceBEq, Int.reduceBNe, Int.reduceAdd, Int.reduceSub, Int.reduceMul, Int.reduceGT, Int.reduceGE, decS, Int.reduceNe, Int.reduceEq, appS, appD, fillOk, fillAV, List.append_nil]
  refine acK_of (FCall.of (lent := false) c1 (.cons (Vw.wk (wkP a.id a.queue a.user a.prio a.mem a.cores now) rfl) .nil) rfl (by simp)) ?_
  simp -implicitDefEqProofs (maxSteps := 500000) (disch := first | decide | omega) only [↓preS, ↓reduceIte, allS, Nat.reduceBEq, Nat.reduceAdd, Nat.reduceEqDiff, reduceIte, Int.reduceToNat, Int.reduceLE, Int.reduceLT, Nat.reduceLeDiff, Nat.reduceMul, Nat.reducePow, Nat.reduceLT, Int.reduceBEq, Int.reduceBNe, Int.reduceAdd, Int.reduceSub, Int.reduceMul, Int.reduceGT, Int.reduceGE, decS, Int.reduceNe, Int.reduceEq]
  have c3 := c2.wkArg (a := nilA a.id a.queue a.user a.prio a.mem a.cores now (.sl false 8 [ASK ⟨0, 0, a.mem, a.cores, 1, -1, -1, 0⟩])) w2
  unfold four owC at c3
  simp only at c3
  refine (c3.frame [3, 4, 5, 6] rfl (by simp) (by simp) ?_ rfl).to ?_
  · intro k o hk
    match k, hk with
    | 0, hk => simp only [List.getElem?_cons_zero, Option.some.injEq] at hk; subst hk; exact ⟨rfl, rfl⟩
    | 1, hk => simp only [List.getElem?_cons_succ, List.getElem?_cons_zero, Option.some.injEq] at hk; subst hk; exact ⟨rfl, rfl⟩
    | 2, hk => simp only [List.getElem?_cons_succ, List.getElem?_cons_zero, Option.some.injEq] at hk; subst hk; exact ⟨rfl, rfl⟩
    | 3, hk => simp only [List.getElem?_cons_succ, List.getElem?_cons_zero, Option.some.injEq] at hk; subst hk; exact ⟨rfl, rfl⟩
    | k + 4, hk => simp at hk
  rintro y G ⟨y0, Hr, ⟨A, hA, rfl, o, G', rfl, ho⟩, rfl, rfl⟩
  rcases hA with rfl | rfl
  · simp -implicitDefEqProofs (maxSteps := 500000) (disch := first | decide | omega) only [↓preS, ↓reduceIte, allS, Nat.reduceBEq, Nat.reduceAdd, Nat.reduceEqDiff, reduceIte, Int.reduceToNat, Int.reduceLE, Int.reduceLT, Nat.reduceLeDiff, Nat.reduceMul, Nat.reducePow, Nat.reduceLT, Int.reduceBEq, Int.reduceBNe, Int.reduceAdd, Int.reduceSub, Int.reduceMul, Int.reduceGT, Int.reduceGE, decS, Int.reduceNe, Int.reduceEq, AV.ren, AV.renL, AO.ren, spl, setAll, afC, ext]
    exact hp _
  · obtain rfl := ho rfl
    simp -implicitDefEqProofs (maxSteps := 500000) (disch := first | decide | omega) only [↓preS, ↓reduceIte, allS, Nat.reduceBEq, Nat.reduceAdd, Nat.reduceEqDiff, reduceIte, Int.reduceToNat, Int.reduceLE, Int.reduceLT, Nat.reduceLeDiff, Nat.reduceMul, Nat.reducePow, Nat.reduceLT, Int.reduceBEq, Int.reduceBNe, Int.reduceAdd, Int.reduceSub, Int.reduceMul, Int.reduceGT, Int.reduceGE, decS, Int.reduceNe, Int.reduceEq, AV.ren, AV.renL, AO.ren, spl, setAll, afC, ext]
    exact hp _
set_option maxRecDepth 20000 in
set_option maxHeartbeats 16000000 in
theorem submit_ok (b : Fl) (s : Sta) (hs : SOk s) (hl35 : s.apps.length ≤ 2 ^ 34) (a : App) (ha : AIn a) : PCall Try.prog 9 [.agg (stC b s), APP a] (.tup [.agg (stC FF (submitF s a).1), .int .i64 (submitF s a).2]) := by
  unfold PCall
  have co := own_ok b s hs
  have hb := fun H h1 h2 h3 h4 => bor_own (H := H) (s := s) (i := 3) (j := 6) (k := 4) (m := 5) h1 h2 h3 h4
  have ca := at_ok ownF s a.id (by omega)
  have cm := many_ok true s.apps (by omega)
  have cl := leaf_ok false true s.labels s.qs a.queue (by have := hs.qL; omega) fun q hq => (hs.qq q hq)
  have cx := idx18o true s.apps (by omega)
  have hc := fun H h => bor_conf (H := H) (i := 3) (ls := s.labels) (qs := s.qs) h rfl
  have h7 : 0 ≤ idxI (idP a.id) s.apps → submitF s a = (s, 7) := fun h => if_pos h
  obtain ⟨ls, qs, nodes, apps, conts, slots, plans, now, ep, sq⟩ := s
  refine acallR_of isR9 (by simp) ?_
  unfold cc9
  unfold stC owC at *
  simp only at hb ca cm cl cx co hc hl35 ⊢
  simp -implicitDefEqProofs (maxSteps := 500000) (disch := first | decide | omega) only [↓preS, ↓reduceIte, allS, Nat.reduceBEq, Nat.reduceAdd, Nat.reduceEqDiff, reduceIte, Int.reduceToNat, Int.reduceLE, Int.reduceLT, Nat.reduceLeDiff, Nat.reduceMul, Nat.reducePow, Nat.reduceLT, Int.reduceBEq, Int.reduceBNe, Int.reduceAdd, Int.reduceSub, Int.reduceMul, Int.reduceGT, Int.reduceGE, decS, Int.reduceNe, Int.reduceEq, appS]
  refine acK_new co rfl rfl ?_
  rintro y G ⟨rfl, rfl⟩
  simp -implicitDefEqProofs (maxSteps := 500000) (disch := first | decide | omega) only [↓preS, ↓reduceIte, allS, Nat.reduceBEq, Nat.reduceAdd, Nat.reduceEqDiff, reduceIte, Int.reduceToNat, Int.reduceLE, Int.reduceLT, Nat.reduceLeDiff, Nat.reduceMul, Nat.reducePow, Nat.reduceLT, Int.reduceBEq, Int.reduceBNe, Int.reduceAdd, Int.reduceSub, Int.reduceMul, Int.reduceGT, Int.reduceGE, decS, Int.reduceNe, Int.reduceEq, AV.ren, AO.ren, up, AV.renL, appS, appD]
  refine acK_of (FCall.of (lent := false) (in_ok a.id 0 9999 ⟨ha.i0, ha.i9⟩) (.refl rfl) rfl (by simp)) ?_
  simp -implicitDefEqProofs (maxSteps := 500000) (disch := first | decide | omega) only [↓preS, ↓reduceIte, allS, Nat.reduceBEq, Nat.reduceAdd, Nat.reduceEqDiff, reduceIte, Int.reduceToNat, Int.reduceLE, Int.reduceLT, Nat.reduceLeDiff, Nat.reduceMul, Nat.reducePow, Nat.reduceLT, Int.reduceBEq, Int.reduceBNe, Int.reduceAdd, Int.reduceSub, Int.reduceMul, Int.reduceGT, Int.reduceGE, decS, Int.reduceNe, Int.reduceEq, appS, appD]
  refine acK_of (FCall.of (lent := false) (in_ok a.user 0 99 ⟨ha.u0, ha.u9⟩) (.refl rfl) rfl (by simp)) ?_
  simp -implicitDefEqProofs (maxSteps := 500000) (disch := first | decide | omega) only [↓preS, ↓reduceIte, allS, Nat.reduceBEq, Nat.reduceAdd, Nat.reduceEqDiff, reduceIte, Int.reduceToNat, Int.reduceLE, Int.reduceLT, Nat.reduceLeDiff, Nat.reduceMul, Nat.reducePow, Nat.reduceLT, Int.reduceBEq, Int.reduceBNe, Int.reduceAdd, Int.reduceSub, Int.reduceMul, Int.reduceGT, Int.reduceGE, decS, Int.reduceNe, Int.reduceEq, appS, appD]
  refine acK_of (FCall.of (lent := false) (in_ok a.prio 0 9 ⟨ha.p0, ha.p9⟩) (.refl rfl) rfl (by simp)) ?_
  simp -implicitDefEqProofs (maxSteps := 500000) (disch := first | decide | omega) only [↓preS, ↓reduceIte, allS, Nat.reduceBEq, Nat.reduceAdd, Nat.reduceEqDiff, reduceIte, Int.reduceToNat, Int.reduceLE, Int.reduceLT, Nat.reduceLeDiff, Nat.reduceMul, Nat.reducePow, Nat.reduceLT, Int.reduceBEq, Int.reduceBNe, Int.reduceAdd, Int.reduceSub, Int.reduceMul, Int.reduceGT, Int.reduceGE, decS, Int.reduceNe, Int.reduceEq, appS, appD]
  refine acK_of (FCall.of (lent := false) (in_ok a.mem 1 1073741824 ⟨ha.m1, ha.m9⟩) (.refl rfl) rfl (by simp)) ?_
  simp -implicitDefEqProofs (maxSteps := 500000) (disch := first | decide | omega) only [↓preS, ↓reduceIte, allS, Nat.reduceBEq, Nat.reduceAdd, Nat.reduceEqDiff, reduceIte, Int.reduceToNat, Int.reduceLE, Int.reduceLT, Nat.reduceLeDiff, Nat.reduceMul, Nat.reducePow, Nat.reduceLT, Int.reduceBEq, Int.reduceBNe, Int.reduceAdd, Int.reduceSub, Int.reduceMul, Int.reduceGT, Int.reduceGE, decS, Int.reduceNe, Int.reduceEq, appS, appD]
  refine acK_of (FCall.of (lent := false) (in_ok a.cores 1 1073741824 ⟨ha.c1, ha.c9⟩) (.refl rfl) rfl (by simp)) ?_
  simp -implicitDefEqProofs (maxSteps := 500000) (disch := first | decide | omega) only [↓preS, ↓reduceIte, allS, Nat.reduceBEq, Nat.reduceAdd, Nat.reduceEqDiff, reduceIte, Int.reduceToNat, Int.reduceLE, Int.reduceLT, Nat.reduceLeDiff, Nat.reduceMul, Nat.reducePow, Nat.reduceLT, Int.reduceBEq, Int.reduceBNe, Int.reduceAdd, Int.reduceSub, Int.reduceMul, Int.reduceGT, Int.reduceGE, decS, Int.reduceNe, Int.reduceEq, appS, appD]
  refine acK_of (FCall.of (lent := true) ca (.cons (hb _ rfl rfl rfl rfl) (.cons (Vw.refl rfl) .nil)) rfl (fun _ => rfl)) ?_
  rcases idx_cases0 (idP a.id) apps with ⟨h1, h2⟩ | ⟨i, hi, h1, h2⟩
  · rw [h1]
    have h7 : submitF ⟨ls, qs, nodes, apps, conts, slots, plans, now, ep, sq⟩ a = if 16 ≤ manyN apps then (⟨ls, qs, nodes, apps, conts, slots, plans, now, ep, sq⟩, 4) else if leafP a.queue qs = false then (⟨ls, qs, nodes, apps, conts, slots, plans, now, ep, sq⟩, 19) else (⟨ls, qs, nodes, putL (newA now a) (makeRoom apps), conts, slots, plans, now, ep, sq⟩, 0) := by
      unfold submitF
      simp only [h1]
      rw [if_neg (by omega)]
    simp -implicitDefEqProofs (maxSteps := 500000) (disch := first | decide | omega) only [↓preS, ↓reduceIte, allS, Nat.reduceBEq, Nat.reduceAdd, Nat.reduceEqDiff, reduceIte, Int.reduceToNat, Int.reduceLE, Int.reduceLT, Nat.reduceLeDiff, Nat.reduceMul, Nat.reducePow, Nat.reduceLT, Int.reduceBEq, Int.reduceBNe, Int.reduceAdd, Int.reduceSub, Int.reduceMul, Int.reduceGT, Int.reduceGE, decS, Int.reduceNe, Int.reduceEq, appS]
    refine acK_of (FCall.of (lent := true) cm (.cons (Vw.ownMap rfl) .nil) rfl (fun _ => rfl)) ?_
    by_cases h16 : 16 ≤ manyN apps
    · rw [if_pos h16] at h7
      rw [h7]
      simp -implicitDefEqProofs (maxSteps := 500000) (disch := first | decide | omega) only [↓preS, ↓reduceIte, allS, Nat.reduceBEq, Nat.reduceAdd, Nat.reduceEqDiff, reduceIte, Int.reduceToNat, Int.reduceLE, Int.reduceLT, Nat.reduceLeDiff, Nat.reduceMul, Nat.reducePow, Nat.reduceLT, Int.reduceBEq, Int.reduceBNe, Int.reduceAdd, Int.reduceSub, Int.reduceMul, Int.reduceGT, Int.reduceGE, decS, Int.reduceNe, Int.reduceEq]
      rfl
    · rw [if_neg h16] at h7
      simp -implicitDefEqProofs (maxSteps := 500000) (disch := first | decide | omega) only [↓preS, ↓reduceIte, allS, Nat.reduceBEq, Nat.reduceAdd, Nat.reduceEqDiff, reduceIte, Int.reduceToNat, Int.reduceLE, Int.reduceLT, Nat.reduceLeDiff, Nat.reduceMul, Nat.reducePow, Nat.reduceLT, Int.reduceBEq, Int.reduceBNe, Int.reduceAdd, Int.reduceSub, Int.reduceMul, Int.reduceGT, Int.reduceGE, decS, Int.reduceNe, Int.reduceEq, appS]
      refine acK_of (FCall.of (lent := true) cl (.cons (hc _ rfl) (.cons (Vw.refl rfl) .nil)) rfl (fun _ => rfl)) ?_
      cases hlf : leafP a.queue qs with
      | false =>
        rw [if_pos hlf] at h7
        rw [h7]
        simp -implicitDefEqProofs (maxSteps := 500000) (disch := first | decide | omega) only [↓preS, ↓reduceIte, allS, Nat.reduceBEq, Nat.reduceAdd, Nat.reduceEqDiff, reduceIte, Int.reduceToNat, Int.reduceLE, Int.reduceLT, Nat.reduceLeDiff, Nat.reduceMul, Nat.reducePow, Nat.reduceLT, Int.reduceBEq, Int.reduceBNe, Int.reduceAdd, Int.reduceSub, Int.reduceMul, Int.reduceGT, Int.reduceGE, decS, Int.reduceNe, Int.reduceEq]
        rfl
      | true =>
        rw [if_neg (by rw [hlf]; simp)] at h7
        rw [h7]
        simp -implicitDefEqProofs (maxSteps := 500000) (disch := first | decide | omega) only [↓preS, ↓reduceIte, allS, Nat.reduceBEq, Nat.reduceAdd, Nat.reduceEqDiff, reduceIte, Int.reduceToNat, Int.reduceLE, Int.reduceLT, Nat.reduceLeDiff, Nat.reduceMul, Nat.reducePow, Nat.reduceLT, Int.reduceBEq, Int.reduceBNe, Int.reduceAdd, Int.reduceSub, Int.reduceMul, Int.reduceGT, Int.reduceGE, decS, Int.reduceNe, Int.reduceEq, Bool.not_true]
        refine acK_of (FCall.of (lent := true) cx (.cons (Vw.ownMap rfl) (.cons (Vw.refl rfl) .nil)) rfl (fun _ => rfl)) ?_
        unfold makeRoom
        simp only
        rcases idx_cases0 (fun x => !liveP x) apps with ⟨k1, k2⟩ | ⟨k, hk, k1, k2⟩
        · rw [k1, if_neg (by omega)]
          have rest := fun x6 b73 apps0 h => submit_rest ls qs nodes apps0 conts slots plans now ep sq a x6 b73 h (fun y x => y = AV.tup [.agg (stC FF ⟨ls, qs, nodes, putL (newA now a) apps0, conts, slots, plans, now, ep, sq⟩), .int .i64 0]) fun G => rfl
          unfold owC NL stC at rest
          simp only at rest
          by_cases h16l : 16 ≤ apps.length
          · simp -implicitDefEqProofs (maxSteps := 500000) (disch := first | decide | omega) only [↓preS, ↓reduceIte, allS, Nat.reduceBEq, Nat.reduceAdd, Nat.reduceEqDiff, reduceIte, Int.reduceToNat, Int.reduceLE, Int.reduceLT, Nat.reduceLeDiff, Nat.reduceMul, Nat.reducePow, Nat.reduceLT, Int.reduceBEq, Int.reduceBNe, Int.reduceAdd, Int.reduceSub, Int.reduceMul, Int.reduceGT, Int.reduceGE, decS, Int.reduceNe, Int.reduceEq]
            exact rest _ _ apps (by omega)
          · simp -implicitDefEqProofs (maxSteps := 500000) (disch := first | decide | omega) only [↓preS, ↓reduceIte, allS, Nat.reduceBEq, Nat.reduceAdd, Nat.reduceEqDiff, reduceIte, Int.reduceToNat, Int.reduceLE, Int.reduceLT, Nat.reduceLeDiff, Nat.reduceMul, Nat.reducePow, Nat.reduceLT, Int.reduceBEq, Int.reduceBNe, Int.reduceAdd, Int.reduceSub, Int.reduceMul, Int.reduceGT, Int.reduceGE, decS, Int.reduceNe, Int.reduceEq]
            exact rest _ _ apps (by omega)
        · rw [k1]
          have rest := fun x6 b73 apps0 h => submit_rest ls qs nodes apps0 conts slots plans now ep sq a x6 b73 h (fun y x => y = AV.tup [.agg (stC FF ⟨ls, qs, nodes, putL (newA now a) apps0, conts, slots, plans, now, ep, sq⟩), .int .i64 0]) fun G => rfl
          unfold owC NL stC at rest
          simp only at rest
          by_cases h16l : 16 ≤ apps.length
          · rw [if_pos ⟨h16l, by omega⟩, Int.toNat_natCast]
            have cd := del_ok apps k hk (by omega)
            simp -implicitDefEqProofs (maxSteps := 500000) (disch := first | decide | omega) only [↓preS, ↓reduceIte, allS, Nat.reduceBEq, Nat.reduceAdd, Nat.reduceEqDiff, reduceIte, Int.reduceToNat, Int.reduceLE, Int.reduceLT, Nat.reduceLeDiff, Nat.reduceMul, Nat.reducePow, Nat.reduceLT, Int.reduceBEq, Int.reduceBNe, Int.reduceAdd, Int.reduceSub, Int.reduceMul, Int.reduceGT, Int.reduceGE, decS, Int.reduceNe, Int.reduceEq]
            refine (cd.frame [6] rfl (by simp) (by simp) ?_ rfl).to ?_
            · intro k o hk
              match k, hk with
              | 0, hk => simp only [List.getElem?_cons_zero, Option.some.injEq] at hk; subst hk; exact ⟨rfl, rfl⟩
              | k + 1, hk => simp at hk
            rintro y G ⟨y0, Hr, ⟨rfl, rfl⟩, rfl, rfl⟩
            simp -implicitDefEqProofs (maxSteps := 500000) (disch := first | decide | omega) only [↓preS, ↓reduceIte, allS, Nat.reduceBEq, Nat.reduceAdd, Nat.reduceEqDiff, reduceIte, Int.reduceToNat, Int.reduceLE, Int.reduceLT, Nat.reduceLeDiff, Nat.reduceMul, Nat.reducePow, Nat.reduceLT, Int.reduceBEq, Int.reduceBNe, Int.reduceAdd, Int.reduceSub, Int.reduceMul, Int.reduceGT, Int.reduceGE, decS, Int.reduceNe, Int.reduceEq, AV.ren, AV.renL, AO.ren, spl, setAll, ext]
            have rest2 := submit_rest2 ls qs nodes (delK k apps) conts slots plans now ep sq a (by simp [delK]; omega) (fun y x => y = AV.tup [.agg (stC FF ⟨ls, qs, nodes, putL (newA now a) (delK k apps), conts, slots, plans, now, ep, sq⟩), .int .i64 0]) fun G => rfl
            unfold owC NL stC at rest2
            simp only at rest2
            exact rest2
          · rw [if_neg (by omega)]
            simp -implicitDefEqProofs (maxSteps := 500000) (disch := first | decide | omega) only [↓preS, ↓reduceIte, allS, Nat.reduceBEq, Nat.reduceAdd, Nat.reduceEqDiff, reduceIte, Int.reduceToNat, Int.reduceLE, Int.reduceLT, Nat.reduceLeDiff, Nat.reduceMul, Nat.reducePow, Nat.reduceLT, Int.reduceBEq, Int.reduceBNe, Int.reduceAdd, Int.reduceSub, Int.reduceMul, Int.reduceGT, Int.reduceGE, decS, Int.reduceNe, Int.reduceEq]
            exact rest _ _ apps (by omega)
  · rw [h1]
    have h7 := h7 (by rw [h1]; omega)
    rw [h7]
    simp -implicitDefEqProofs (maxSteps := 500000) (disch := first | decide | omega) only [↓preS, ↓reduceIte, allS, Nat.reduceBEq, Nat.reduceAdd, Nat.reduceEqDiff, reduceIte, Int.reduceToNat, Int.reduceLE, Int.reduceLT, Nat.reduceLeDiff, Nat.reduceMul, Nat.reducePow, Nat.reduceLT, Int.reduceBEq, Int.reduceBNe, Int.reduceAdd, Int.reduceSub, Int.reduceMul, Int.reduceGT, Int.reduceGE, decS, Int.reduceNe, Int.reduceEq]
    rfl
end Go.Proofs.Ytceifhcjbmodaaa
