/- A part of a proof: how code is told and stepped through. No condition. -/
import Derived.Test.YtakemdamegfcfaaGreatT5
import Derived.Recover
set_option linter.defProp false
set_option linter.unusedSimpArgs false
set_option linter.unusedVariables false
namespace Go.Ab
open Go
def cM (y:AV) (K:AV->Prop):Prop:=K y
def lA (y:AV) (H:List AO) (K:AV->List AO->Prop):Prop:=K y H
def vM (s:St) (K:St->Prop):Prop:=K s
theorem aJ3 {y:AV} {K:AV->Prop}:cM y K=K y:=rfl
theorem aJ5 {y:AV} {H:List AO} {K:AV->List AO->Prop}:lA y H K=K y H:=rfl
theorem aJ4 {s:St} {K:St->Prop}:vM s K=K s:=rfl
def aHg (c a b:AV) (K:AV->Prop):Prop :=
 match c with
 | .bool t=>cM (if t then a else b) K
 | _=>False
def aX1 (neg:Bool) (x y:AV) (K:AV->Prop):Prop :=
 match x,y with
 | .bool a,.bool b=>cM (.bool (if neg then !(a==b) else a==b)) K
 | _,_=>False
def aGO (neg:Bool) (ks:List AV) (x y:AV) (K:AV->Prop):Prop :=
 match x,y with
 | .agg xs,.agg ys=>∃ b,eC ks xs ys=some b/\K (.bool (if neg then !b else b))
 | _,_=>False
def aM7 (k:IntKind) (x:AV) (K:AV->Prop):Prop :=
 match x with
 | .int _ n=>cM (.int k (k.wrap n)) K
 | _=>False
def aUi (x:AV) (lo hi:Option AV) (K:AV->Prop):Prop :=
 match x with
 | .str s=>dQ hi s.length fun h=>h<=s.length/\dQ lo 0 fun lw=>lw<=h/\cM (.str ((s.take h).drop lw)) K
 | _=>False
def aIz (off:Nat) (x:AV) (K:AV->Prop):Prop :=
 match x with
 | .ref id i o=>cM (.ref id i (o+off)) K
 | .ip t cs=>cM (.ip t (cs.drop off)) K
 | _=>False
def aWU (off n:Nat) (agg:Bool) (x:AV) (K:AV->Prop):Prop :=
 match x with
 | .agg cs=>off+n<=cs.length/\(agg=true∨n=1)/\cM (partOf cs off n agg) K
 | _=>False
def aIo (z:Nat) (x i:AV) (K:AV->Prop):Prop :=
 match x,i with
 | .sl t z' l,.int _ j=>z'=z/\0<=j/\j<l.length/\cM (.ip t (l.getD j.toNat .top).cells) K
 | .own id z' off len,.int _ j=>z'=z/\0<=j/\j<len/\cM (.ref id (off+j.toNat) 0) K
 | _,_=>False
def aVb (x i:AV) (K:AV->Prop):Prop :=
 match x,i with
 | .str s,.int _ j=>0<=j/\j<s.length/\cM (.int .u8 (s.getD j.toNat 0).toNat) K
 | _,_=>False
def aWW (i:Nat) (x:AV) (K:AV->Prop):Prop :=
 match x with
 | .tup vs=>i<vs.length/\cM (vs.getD i .top) K
 | _=>False
def aU8 (n:Nat) (agg:Bool) (x:AV) (K:AV->Prop):Prop :=
 match x with
 | .ip _ cs=>n<=cs.length/\(agg=true∨n=1)/\cM (partOf cs 0 n agg) K
 | _=>False
def aN8 (x:AV) (K:AV->Prop):Prop :=
 match x with
 | .str s=>cM (.int .i64 s.length) K
 | _=>False
def yO (x:AV) (K:AV->Prop):Prop :=
 match x with
 | .sl _ _ l=>cM (.int .i64 l.length) K
 | .own _ _ _ len=>cM (.int .i64 len) K
 | .aD=>cM (.int .i64 0) K
 | _=>False
def aP9 (x:AV) (K:AV->Prop):Prop :=
 match x with
 | .aD=>cM (.int .i64 0) K
 | .ownx _ _ _ _ c=>cM (.int .i64 c) K
 | _=>False
def aU5 (mx:Bool) (x:AV) (xs:List AV) (K:AV->Prop):Prop :=
 match x with
 | .int k a=>mmK mx k a xs K
 | _=>False
def aX0 (zero:List AV) (ps:List (Nat×Nat×AV)) (K:AV->Prop):Prop :=
 cA zero.length ps=true/\zero.all AV.one=true/\cM (.agg (bU zero ps)) K
def rG (n:Nat) (agg:Bool) (i off:Nat) (o:Option AO) (K:AV->Prop):Prop :=
 match o with
 | some (.box cs)=>i=0/\off+n<=cs.length/\(agg=true∨n=1)/\cM (partOf cs off n agg) K
 | some (.arr z l)=>i<l.length/\off+n<=z/\(agg=true∨n=1)/\cM (partOf (l.getD i .top).cells off n agg) K
 | _=>False
def ldK (n:Nat) (agg:Bool) (H:List AO) (x:AV) (K:AV->Prop):Prop :=
 match x with
 | .ref id i off=>rG n agg i off H[id]? K
 | .ip t cs=>n<=cs.length/\(agg=true∨n=1)/\cM (partOf cs 0 n agg) K
 | _=>False
def aF1 (o:Option (List AV)) (K:AV->Prop):Prop :=
 match o with
 | some l=>∃ s,bytesOf l=some s/\K (.str s)
 | none=>False
def bxK (x:AV) (H:List AO) (K:AV->List AO->Prop):Prop:=x.cells.all AV.one=true/\lA (.ref H.length 0 0) (H++[.box x.cells]) K
def aQj (n:Nat) (id i off:Nat) (o:Option AO) (v:AV) (H:List AO) (K:AV->List AO->Prop):Prop :=
 match o with
 | some (.box cs)=>i=0/\off+n<=cs.length/\v.cells.all AV.one=true/\lA (.tup []) (H.set id (.box (cs.take off++v.cells++cs.drop (off+n)))) K
 | some (.arr z l)=>i<l.length/\off+n<=z/\v.cells.all AV.ok=true/\lA (.tup []) (H.set id (.arr z (l.set i (dS (l.getD i .top) off n v.cells)))) K
 | _=>False
def stK (n:Nat) (x v:AV) (H:List AO) (K:AV->List AO->Prop):Prop:=v.cells.length=n/\match x with
 | .ref id i off=>aQj n id i off H[id]? v H K
 | _=>False
def aJ2 (z len:Nat) (zero:AV) (ps:List (Nat×AV)) (H:List AO) (K:AV->List AO->Prop):Prop :=
 len*z<=2^24/\zero.el z=true/\(ps.all fun p=>decide (p.1<len)&&p.2.el z)=true/\lA (.own H.length z 0 len) (H++[.arr z (jR (List.replicate len zero) ps)]) K
def aU7 (z bytes:Nat) (zero l c:AV) (H:List AO) (K:AV->List AO->Prop):Prop :=
 match l,c with
 | .int .i64 len,.int .i64 cap=>0<=len/\len<=cap/\cap*bytes<=2^47/\cap<2^63/\zero.el z=true/\lA (.own H.length z 0 len.toNat) (H++[.arr z (List.replicate len.toNat zero)]) K
 | _,_=>False
def x9:AV->Bool
 | .sl _ _ _=>false
 | _=>true
def aKk (z bytes:Nat) (s x:AV) (l m:Option (List AV)) (H:List AO) (K:AV->List AO->Prop):Prop :=
 match l,m with
 | some l,some m=>x9 s=true/\((l.length+m.length)*bytes<=2^47/\l.length+m.length<2^63)/\lA (.own H.length z 0 (l.length+m.length)) (hZ H s++[.arr z (l++m)]) K
 | _,_=>False
def acK (P:Program) (f:FuncId) (args:List AV) (H:List AO) (K Kp:AV->List AO->Prop):Prop:=dK P f args H K Kp
def fcK (P:Program) (f:FuncId) (args:List AV) (H:List AO) (K:AV->List AO->Prop):Prop:=∃ y,aI P f args H y/\K y H
def aJW (P:Program) (x:AV) (args:List AV) (H:List AO) (K Kp:AV->List AO->Prop):Prop :=
 match x with
 | .fn (.func f) first cap=>acK P f (first++args++cap) H K Kp
 | _=>False
def a4l (P:Program) (x:AV) (args:List AV) (H:List AO) (K:AV->List AO->Prop):Prop :=
 match x with
 | .fn (.func f) first cap=>fcK P f (first++args++cap) H K
 | _=>False
theorem aE {P:Program} {f:FuncId} {args:List AV} {H:List AO} {y:AV} {K Kp:AV->List AO->Prop} (h:aI P f args H y) (hk:K y H):acK P f args H K Kp:=(aW.ofF (K:=K) h hk).to fun _ _ h=>h
def nxt (P:Program) (d:Bool) (t:Nat) (l:List aP) (r:bX) (L:St->Prop) (Lp:AV->St->Prop) (y:AV) (H:List AO):Prop:=cF P d l ⟨(t,y) :: r,H⟩ L Lp
def aRb (P:Program) (d:Bool) (l:List aP) (r:bX) (L:St->Prop) (Lp:AV->St->Prop) (y:AV) (H:List AO):Prop:=cF P d l ⟨r,H⟩ L Lp
def aQR (r:bX) (Lp:AV->St->Prop) (x:AV) (H:List AO):Prop:=Lp x ⟨r,H⟩
def opX (P:Program) (d:Bool) (c:CO) (e:Operand->AV) (H:List AO) (K Kp:AV->List AO->Prop):Prop:=if d then opD P c e H K else opK P c e H K Kp
def gK (P:Program) (d:Bool) (t:Option Nat) (c:CO) (w:Bool) (l:List aP) (r:bX) (H:List AO) (L:St->Prop) (Lp:AV->St->Prop) (b:AV):Prop :=
 match b with
 | .bool b=>if b=w then opX P d c (Ab.ev r.get) H (fun y H'=>cF P d l ⟨bX.put r t y,H'⟩ L Lp) (aQR r Lp) else cF P d l ⟨bX.put r t (.tup []),H⟩ L Lp
 | .tup []=>cF P d l ⟨bX.put r t (.tup []),H⟩ L Lp
 | _=>False
def pU (frz:List Nat) (keep:Option (List Nat)) (K:St->Prop) (s:St):Prop:=y2 frz s fun s'=>vM (dM keep s') K
def awK (P:Program) (b:CC) (Q:AE->St->Prop) (s:St):Prop:=aw P b Q s
def cK (P:Program) (t f:CC) (Q:AE->St->Prop) (s:St) (c:AV):Prop :=
 match c with
 | .bool b=>if b=true then aw P t Q s else aw P f Q s
 | _=>False
def aHi (D:List Nat) (Q:AE->St->Prop) (x:AV) (s:St):Prop:=Q (.pan x) ⟨qY D s.r,s.H⟩
def aYI (Q:AE->St->Prop) (x:AV) (s:St):Prop:=Q (.pan x) s
section eqs
variable {P:Program} {e:Operand->AV} {H:List AO} {K:AV->List AO->Prop} {Q:AE->St->Prop} {r:bX} {s:St} {l:List aP} {L:St->Prop} {Lp:AV->St->Prop}
theorem u5 {s:AV}:(∀ t z' q,s≠ .sl t z' q)↔x9 s=true:=by
 cases s<;>simp [x9]
def sE (g:Nat) (Q:AE->St->Prop):AE->St->Prop:=iT (fun s'=>∃ s1,Sub g s' s1/\Q .normal s1) Q
theorem aNz {g:Nat} {b:CC}:aw P (.tidy g b) Q s=aw P b (sE g Q) s:=rfl
theorem dZ {g:Nat} (hq:Q .normal s):sE g Q .normal s:=⟨s,.inl rfl,hq⟩
theorem zW {g:Nat} {s1:St} (h:Sub g s s1) (hq:sE g Q .normal s1):sE g Q .normal s:=by
 obtain ⟨s2,h2,h3⟩:=hq
 exact ⟨s2,h.trans h2,h3⟩
theorem dF {g:Nat} {H:List AO} (j:Nat) {z:Nat} {l:List AV} (hj:H[j]?=some (.arr z l)) (hq:sE g Q .normal ⟨r.map fun p=>(p.1,p.2.fz j z l),(H.map (AO.fz j z l)).set j .dead⟩):sE g Q .normal ⟨r,H⟩:=zW (Sub.frz j hj) hq
theorem sD {g:Nat} (s1:St) (h:Sub g s s1) (hq:Q .normal s1):sE g Q .normal s:=⟨s1,h,hq⟩
theorem aS2 {a b:CC}:aw P (.cat a b) Q s=aw P a (iT (awK P b Q) Q) s:=rfl
theorem aNA:aw P .skip Q s=Q .normal s:=rfl
theorem aSX {a b:CC}:aw P (.seq a b) Q s=aw P a (iT (awK P b Q) Q) s:=rfl
theorem aS3 {b:CC}:awK P b Q ⟨r,H⟩=aw P b Q ⟨r,H⟩:=rfl
theorem aS0 {ops:List aP} {d:Bool} {frz:List Nat} {keep:Option (List Nat)}:aw P (.reg ops d frz keep) Q s=cF P d ops s (pU frz keep (Q .normal)) (aYI Q):=rfl
theorem aSY {ops:List aP} {dr frz:List Nat} {keep:Option (List Nat)}:aw P (.sch (.fin ops) dr frz keep) Q s=cF P false ops s (pU frz keep (Q .normal)) (aHi dr Q):=rfl
def aJ0 (P:Program) (a b:OT) (L:St->Prop) (Lp:AV->St->Prop) (s:St):Prop:=otK P a s L Lp/\otK P b s L Lp
theorem aNB {ops:List aP} {x y:OT} {dr frz:List Nat} {keep:Option (List Nat)}:aw P (.sch (.pre ops x y) dr frz keep) Q s=cF P false ops s (aJ0 P x y (pU frz keep (Q .normal)) (aHi dr Q)) (aHi dr Q):=rfl
theorem aJZ {x y:OT}:aJ0 P x y L Lp ⟨r,H⟩=(otK P x ⟨r,H⟩ L Lp/\otK P y ⟨r,H⟩ L Lp):=rfl
theorem aLC {ops:List aP}:otK P (.fin ops) s L Lp=cF P false ops s L Lp:=rfl
theorem aLB {ops:List aP} {x y:OT}:otK P (.pre ops x y) s L Lp=cF P false ops s (aJ0 P x y L Lp) Lp:=rfl
theorem z9 {keep:List Nat}:pU [] (some keep) L ⟨r,H⟩=vM ⟨keep.map fun t=>(t,r.get t),H⟩ L:=rfl
theorem aAa {t:Nat} {ts:List Nat} {keep:List Nat}:pU (t :: ts) (some keep) L ⟨r,H⟩=tF ((t :: ts).flatMap fun t=>(r.get t).ids) ⟨r,H⟩ (pU [] (some keep) L):=rfl
theorem aND {c:Operand} {t f:CC}:aw P (.cond c t f) Q s=cK P t f Q s (Ab.ev s.r.get c):=rfl
theorem aY8 {t f:CC}:cK P t f Q s (.bool true)=aw P t Q s:=rfl
theorem aY9 {t f:CC}:cK P t f Q s (.bool false)=aw P f Q s:=rfl
theorem a8 {t f:CC} {b:Bool} (h1:b=true->aw P t Q s) (h2:b=false->aw P f Q s):cK P t f Q s (.bool b):=by
 cases b
 · exact h2 rfl
 · exact h1 rfl
theorem aJ9 {keep:Option (List Nat)} {id:Nat} {b:CC}:aw P (.block keep id b) Q s=aw P b (kI keep id Q) s:=rfl
theorem aNC {id:Nat}:aw P (.exit id) Q s=Q (.exit id) s:=rfl
theorem aSZ:aw P .ret Q s=Q .ret s:=rfl
theorem vV:iT L Q .normal s=L s:=rfl
theorem zX {id:Nat}:iT L Q (.exit id) s=Q (.exit id) s:=rfl
theorem aEX:iT L Q .ret s=Q .ret s:=rfl
theorem uL {keep:List Nat} {id:Nat}:kI (some keep) id Q .normal ⟨r,H⟩=vM ⟨keep.map fun t=>(t,r.get t),H⟩ (Q .normal):=rfl
theorem zD {keep:List Nat} {id:Nat}:kI (some keep) id Q (.exit id) ⟨r,H⟩=vM ⟨keep.map fun t=>(t,r.get t),H⟩ (Q .normal):=by simp [kI,dM,vM]
theorem wW {keep:Option (List Nat)} {id i:Nat} (h:(i==id)=false):kI keep id Q (.exit i) s=Q (.exit i) s:=by
 have:i≠id:=by simpa using h
 simp [kI,this]
theorem aA1 {keep:Option (List Nat)} {id:Nat}:kI keep id Q .ret s=Q .ret s:=rfl
theorem aLD {d:Bool}:cF P d [] s L Lp=L s:=rfl
theorem aU0 {t:Nat} {c:CO}:cF P false (⟨some t,c,none⟩ :: l) ⟨r,H⟩ L Lp=opK P c (Ab.ev r.get) H (nxt P false t l r L Lp) (aQR r Lp):=rfl
theorem aQU {c:CO}:cF P false (⟨none,c,none⟩ :: l) ⟨r,H⟩ L Lp=opK P c (Ab.ev r.get) H (aRb P false l r L Lp) (aQR r Lp):=rfl
theorem aUZ {t:Nat} {c:CO}:cF P true (⟨some t,c,none⟩ :: l) ⟨r,H⟩ L Lp=opD P c (Ab.ev r.get) H (nxt P true t l r L Lp):=rfl
theorem aQS {c:CO}:cF P true (⟨none,c,none⟩ :: l) ⟨r,H⟩ L Lp=opD P c (Ab.ev r.get) H (aRb P true l r L Lp):=rfl
theorem aQT {d:Bool} {t:Option Nat} {g:Nat} {w:Bool} {c:CO}:cF P d (⟨t,c,some (g,w)⟩ :: l) ⟨r,H⟩ L Lp=gK P d t c w l r H L Lp (r.get g):=by
 cases d<;>rfl
theorem aWP {d:Bool} {t:Option Nat} {c:CO}:gK P d t c true l r H L Lp (.bool true)=cF P d (⟨t,c,none⟩ :: l) ⟨r,H⟩ L Lp:=by cases d<;>rfl
theorem aWS {d:Bool} {t:Option Nat} {c:CO}:gK P d t c false l r H L Lp (.bool false)=cF P d (⟨t,c,none⟩ :: l) ⟨r,H⟩ L Lp:=by cases d<;>rfl
theorem aWQ {d:Bool} {t:Nat} {c:CO}:gK P d (some t) c true l r H L Lp (.bool false)=cF P d l ⟨(t,.tup []) :: r,H⟩ L Lp:=rfl
theorem aWR {d:Bool} {t:Nat} {c:CO}:gK P d (some t) c false l r H L Lp (.bool true)=cF P d l ⟨(t,.tup []) :: r,H⟩ L Lp:=rfl
theorem aY3 {d:Bool} {t:Nat} {w:Bool} {c:CO}:gK P d (some t) c w l r H L Lp (.tup [])=cF P d l ⟨(t,.tup []) :: r,H⟩ L Lp:=rfl
theorem bC {d:Bool} {t:Option Nat} {w:Bool} {c:CO} {b:Bool} (h1:b=true->gK P d t c w l r H L Lp (.bool true)) (h2:b=false->gK P d t c w l r H L Lp (.bool false)):gK P d t c w l r H L Lp (.bool b):=by
 cases b
 · exact h2 rfl
 · exact h1 rfl
theorem aMk {d:Bool} {t:Nat} {k:IntKind} {n:Int}:nxt P d t l r L Lp (.int k n) H=cF P d l ⟨(t,.int k n) :: r,H⟩ L Lp:=rfl
theorem aHE {d:Bool} {t:Nat} {b:Bool}:nxt P d t l r L Lp (.bool b) H=cF P d l ⟨(t,.bool b) :: r,H⟩ L Lp:=rfl
theorem aMh {d:Bool} {t:Nat} {b:List UInt8}:nxt P d t l r L Lp (.str b) H=cF P d l ⟨(t,.str b) :: r,H⟩ L Lp:=rfl
theorem aHD {d:Bool} {t:Nat}:nxt P d t l r L Lp .aD H=cF P d l ⟨(t,.aD) :: r,H⟩ L Lp:=rfl
theorem a3e {d:Bool} {t:Nat}:nxt P d t l r L Lp .nilf H=cF P d l ⟨(t,.nilf) :: r,H⟩ L Lp:=rfl
theorem aQ8 {d:Bool} {t:Nat} {a:Bool} {z:Nat} {q:List AV}:nxt P d t l r L Lp (.sl a z q) H=cF P d l ⟨(t,.sl a z q) :: r,H⟩ L Lp:=rfl
theorem aMj {d:Bool} {t a z o q:Nat}:nxt P d t l r L Lp (.own a z o q) H=cF P d l ⟨(t,.own a z o q) :: r,H⟩ L Lp:=rfl
theorem aMi {d:Bool} {t a o q:Nat}:nxt P d t l r L Lp (.ref a o q) H=cF P d l ⟨(t,.ref a o q) :: r,H⟩ L Lp:=rfl
theorem aQ9 {d:Bool} {t:Nat} {a:Bool} {q:List AV}:nxt P d t l r L Lp (.ip a q) H=cF P d l ⟨(t,.ip a q) :: r,H⟩ L Lp:=rfl
theorem aMl {d:Bool} {t:Nat} {q:List AV}:nxt P d t l r L Lp (.agg q) H=cF P d l ⟨(t,.agg q) :: r,H⟩ L Lp:=rfl
theorem aMg {d:Bool} {t:Nat} {q:List AV}:nxt P d t l r L Lp (.tup q) H=cF P d l ⟨(t,.tup q) :: r,H⟩ L Lp:=rfl
theorem aRa {d:Bool} {t:Nat} {f:Fn} {a b:List AV}:nxt P d t l r L Lp (.fn f a b) H=cF P d l ⟨(t,.fn f a b) :: r,H⟩ L Lp:=rfl
theorem aHF {d:Bool} {q:List AV}:aRb P d l r L Lp (.tup q) H=cF P d l ⟨r,H⟩ L Lp:=rfl
theorem a3i {d:Bool} {k:IntKind} {n:Int}:aRb P d l r L Lp (.int k n) H=cF P d l ⟨r,H⟩ L Lp:=rfl
theorem bK {t:Nat} {v:AV}:bX.get ((t,v) :: r) t=v:=by simp [bX.get]
theorem bE {t q:Nat} {v:AV} (h:(q==t)=false):bX.get ((q,v) :: r) t=r.get t:=by
 have:q≠t:=by simpa using h
 simp [bX.get,this]
theorem aSw {g:Nat->AV} {t:Nat}:Ab.ev g (.tmp t)=g t:=rfl
theorem aSy {g:Nat->AV} {k:IntKind} {n:Int}:Ab.ev g (.const (.int k n))= .int k n:=rfl
theorem aM4 {g:Nat->AV} {b:Bool}:Ab.ev g (.const (.bool b))= .bool b:=rfl
theorem aSx {g:Nat->AV} {b:ByteArray}:Ab.ev g (.const (.string b))= .str b.data.toList:=rfl
theorem aM2 {g:Nat->AV}:Ab.ev g (.const (.slice none 0 0))= .aD:=rfl
theorem a3U {g:Nat->AV} {f:FuncId}:Ab.ev g (.func f)= .fn (.func f) [] []:=rfl
end eqs
def up (n:Nat) (i:Nat):Nat:=n+i
theorem aBP {n:Nat}:ext [] n=up n:=by funext i;simp [ext,up]
theorem aW.new {P:Program} {f:FuncId} {args:List AV} {H:List AO} {Post:AV->List AO->Prop} (h:aW P f args [] Post) (hb:AV.nM 0 args=true) (ha:AV.lG (fun _=>0) args=args) :
 aW P f args H fun y' H'=>∃ y Hr,Post y Hr/\y'=y.ren (up H.length)/\H'=H++Hr.map (AO.ren (up H.length)):=by
 have key:=h.frame (H:=H) [] rfl List.nodup_nil (by simp) (by simp) hb
 have e:AV.lG (fun i=>([]:List Nat).getD i 0) args=args:=by simpa using ha
 rw [e] at key
 refine key.mono fun y' G ⟨y,Hr,h1,h2,h3⟩=>⟨y,Hr,h1,by rw [h2,aBP],?_⟩
 rw [h3]
 simp [spl,j8,aBP]
theorem nI {P:Program} {f:FuncId} {args:List AV} {H:List AO} {Post K Kp:AV->List AO->Prop} (h:aW P f args [] Post) (hb:AV.nM 0 args=true) (ha:AV.lG (fun _=>0) args=args)
 (hk:∀ y Hr,Post y Hr->K (y.ren (up H.length)) (H++Hr.map (AO.ren (up H.length)))):acK P f args H K Kp :=
 (h.new hb ha).to fun y' G ⟨y,Hr,h1,h2,h3⟩=>by subst h2 h3;exact hk y Hr h1
theorem sG {E:Env} {n0:Nat} {H H1:List AO} {v:Value} {y y1:AV} {E0:Env} (hm:HM E H) (hv:E.VR H.length v y) (t:Trans E0 n0 E H.length) (h:Sub n0 ⟨[(0,y)],H⟩ ⟨[(0,y1)],H1⟩) :
 ∃ E1:Env,E1.w=E.w/\E1.VR H1.length v y1/\HM E1 H1/\Trans E0 n0 E1 H1.length:=by
 have m:Match ⟨1,[]⟩ E (bX.get [(0,y)]) H { tmps:= #[v],defers:=[] }:=⟨hm,fun q=>by
  by_cases hq:q=0
  · subst hq;exact hv
  · have:bX.get [(0,y)] q= .top:=by simp [bX.get,Ne.symm hq]
    rw [this];exact .top,rfl,rfl⟩
 obtain ⟨E1,k1,k2,k3⟩:=kN h (Nat.le_refl _) t.num m
 refine ⟨E1,k1,?_,k2.hm,t.iQ k3⟩
 have:=k2.regs 0
 simpa [bX.get] using this
theorem dK.sub {P:Program} {f:FuncId} {args:List AV} {H:List AO} {Post PP Post' PP':AV->List AO->Prop} (h:dK P f args H Post PP)
 (hk:∀ y G,Post y G->∃ y1 G1,Sub H.length ⟨[(0,y)],G⟩ ⟨[(0,y1)],G1⟩/\Post' y1 G1) (hp:∀ y G,PP y G->∃ y1 G1,Sub H.length ⟨[(0,y)],G⟩ ⟨[(0,y1)],G1⟩/\PP' y1 G1):dK P f args H Post' PP' :=
 ⟨h.1,fun E vs hm hl hv=>(h.2 E vs hm hl hv).mono fun e w' q=>by
   rcases q with ⟨v,y,H',E',h1,h2,h3,h4,h5,h6⟩|⟨v,y,H',E',h1,h2,h3,h4,h5,h6⟩
   · obtain ⟨y1,G1,hs,hq⟩:=hk _ _ h6
     obtain ⟨E1,k1,k2,k3,k4⟩:=sG h4 h3 h5 hs
     exact .inl ⟨v,y1,G1,E1,h1,k1.trans h2,k2,k3,k4,hq⟩
   · obtain ⟨y1,G1,hs,hq⟩:=hp _ _ h6
     obtain ⟨E1,k1,k2,k3,k4⟩:=sG h4 h3 h5 hs
     exact .inr ⟨v,y1,G1,E1,h1,k1.trans h2,k2,k3,k4,hq⟩⟩
theorem aW.sub {P:Program} {f:FuncId} {args:List AV} {H:List AO} {Post Post':AV->List AO->Prop} (h:aW P f args H Post)
 (hk:∀ y G,Post y G->∃ y1 G1,Sub H.length ⟨[(0,y)],G⟩ ⟨[(0,y1)],G1⟩/\Post' y1 G1):aW P f args H Post' :=
 ((h.to (PP:=fun _ _=>False) fun _ _ h=>h).sub hk fun _ _ h=>h.elim).never fun _ _ h=>h
def aU4 (E:Env) (n:Nat) (x:Option AV) (u:FrameMode):Prop :=
 match x with
 | none=>u= .returning
 | some y=>∃ v,u= .panicking [⟨v,false,false⟩]/\E.VR n v y
def aKA (P:Program) (g:FuncId) (args:List AV) (x:Option AV) (H:List AO) (Post:List AO->Prop):Prop :=
 mQ P g=true/\∀ (E:Env) (vs:List Value) (u:FrameMode),HM E H->vs.length=args.length->(∀ k y,args[k]?=some y->E.VR H.length (vs.getD k undef) y)->aU4 E H.length x u ->
  CallsD P g vs.toArray u E.w fun e u' w'=>∃ v H' E',e= .returned v/\settle u'= .returning/\E'.w=w'/\HM E' H'/\Trans E H.length E' H'.length/\Post H'
theorem aKA.mono {P:Program} {g:FuncId} {args:List AV} {x:Option AV} {H:List AO} {Post Post':List AO->Prop} (h:aKA P g args x H Post) (hk:∀ G,Post G->Post' G):aKA P g args x H Post' :=
 ⟨h.1,fun E vs u a b c d=>(h.2 E vs u a b c d).mono fun e u' w' ⟨v,H',E',k1,k2,k3,k4,k5,k6⟩=>⟨v,H',E',k1,k2,k3,k4,k5,hk _ k6⟩⟩
section
variable {P:Program} {ops:Array Oper} {Q:Exit->Act->List Frame->World->Prop} {a:Act} {cs:List Frame} {w:World}
end
theorem aAD {E:Env} {H:List AO} {args:List AV} {vs:List Value} {n:Nat} (hm:HM E H) (hl:vs.length=args.length) (hn:args.length<=n) (hv:∀ k y,args[k]?=some y->E.VR H.length (vs.getD k undef) y) :
 Match ⟨n,[]⟩ E (lX 0 args).get H { tmps:=vs.toArray++Array.replicate (n-vs.toArray.size) undef,defers:=[] }:=by
 refine ⟨hm,fun t=>?_,by simp;omega,rfl⟩
 simp only
 rw [p9,if_pos (Nat.zero_le t),Nat.sub_zero]
 by_cases ht:t<args.length
 · have hx:=hv t _ (List.getElem?_eq_getElem ht)
   have e1:(vs.toArray++Array.replicate (n-vs.toArray.size) undef).getD t undef=vs.getD t undef:=by
    rw [Array.getD_eq_getD_getElem?,Array.getElem?_append_left (by simp;omega),List.getD_eq_getElem?_getD]
    simp
   rw [e1,List.getD_eq_getElem?_getD (l:=args),List.getElem?_eq_getElem ht]
   exact hx
 · rw [List.getD_eq_getElem?_getD,List.getElem?_eq_none (by omega)]
   exact .top
section eqs
variable {P:Program} {e:Operand->AV} {H:List AO} {K Kp:AV->List AO->Prop}
theorem aQX {x:Operand}:opK P (.mv x) e H K Kp=cM (e x) fun y=>K y H:=rfl
theorem aQ3 {x:Operand}:opD P (.mv x) e H K=cM (e x) fun y=>K y H:=propext ⟨fun h=>h.2,fun h=>⟨rfl,h⟩⟩
theorem aHk {c a b:Operand}:opK P (.pick c a b) e H K Kp=aHg (e c) (e a) (e b) fun y=>K y H:=rfl
theorem aHs {c a b:Operand}:opD P (.pick c a b) e H K=aHg (e c) (e a) (e b) fun y=>K y H:=propext ⟨fun h=>h.2,fun h=>⟨rfl,h⟩⟩
theorem aLZ {op:BinOp} {x y:Operand}:opK P (.bin op x y) e H K Kp=uM op (e x) (e y) fun y=>K y H:=rfl
theorem aL9 {op:BinOp} {x y:Operand}:opD P (.bin op x y) e H K=uM op (e x) (e y) fun y=>K y H:=propext ⟨fun h=>h.2,fun h=>⟨rfl,h⟩⟩
theorem aL0 {neg:Bool} {x y:Operand}:opK P (.beq neg x y) e H K Kp=aX1 neg (e x) (e y) fun y=>K y H:=rfl
theorem a3M {neg:Bool} {x y:Operand}:opD P (.beq neg x y) e H K=aX1 neg (e x) (e y) fun y=>K y H:=propext ⟨fun h=>h.2,fun h=>⟨rfl,h⟩⟩
theorem aLI {neg:Bool} {ks:List AV} {x y:Operand}:opK P (.seq neg ks x y) e H K Kp=aGO neg ks (e x) (e y) fun y=>K y H:=rfl
theorem aLO {k:Nat} {neg:Bool} {x y:Operand}:opK P (.isn k neg x y) e H K Kp=(aHR k (e y)=true/\oW k (e x) fun b=>cM (.bool (if neg then !b else b)) fun y=>K y H):=rfl
theorem a3J {k:Nat} {neg:Bool} {x y:Operand}:opD P (.isn k neg x y) e H K=(det (.isn k neg x y) e=true/\(aHR k (e y)=true/\oW k (e x) fun b=>cM (.bool (if neg then !b else b)) fun y=>K y H)):=rfl
theorem aQV {op:UnOp} {x:Operand}:opK P (.un op x) e H K Kp=unK op (e x) fun y=>K y H:=rfl
theorem aQ1 {op:UnOp} {x:Operand}:opD P (.un op x) e H K=unK op (e x) fun y=>K y H:=propext ⟨fun h=>h.2,fun h=>⟨rfl,h⟩⟩
theorem aLU {k:IntKind} {x:Operand}:opK P (.cvi k x) e H K Kp=aM7 k (e x) fun y=>K y H:=rfl
theorem aLL {fn:Fn} {first cap:List Operand}:opK P (.mkf fn first cap) e H K Kp=cM (.fn fn (first.map e) (cap.map e)) fun y=>K y H:=rfl
theorem a3I {fn:Fn} {first cap:List Operand}:opD P (.mkf fn first cap) e H K=cM (.fn fn (first.map e) (cap.map e)) fun y=>K y H:=propext ⟨fun h=>h.2,fun h=>⟨rfl,h⟩⟩
theorem aLH {z:Nat} {x:Operand} {lo hi:Option Operand}:opK P (.slc z x lo hi) e H K Kp=slK (e x) z (lo.map e) (hi.map e) fun y=>cM y fun y=>K y H:=rfl
theorem aL3 {z:Nat} {x:Operand} {lo hi:Option Operand}:opD P (.slc z x lo hi) e H K=slK (e x) z (lo.map e) (hi.map e) fun y=>cM y fun y=>K y H:=propext ⟨fun h=>h.2,fun h=>⟨rfl,h⟩⟩
theorem aLF {x:Operand} {lo hi:Option Operand}:opK P (.sls x lo hi) e H K Kp=aUi (e x) (lo.map e) (hi.map e) fun y=>K y H:=rfl
theorem aLS {off:Nat} {x:Operand}:opK P (.fad off x) e H K Kp=aIz off (e x) fun y=>K y H:=rfl
theorem aL6 {off:Nat} {x:Operand}:opD P (.fad off x) e H K=aIz off (e x) fun y=>K y H:=propext ⟨fun h=>h.2,fun h=>⟨rfl,h⟩⟩
theorem aLR {off n:Nat} {agg:Bool} {x:Operand}:opK P (.fld off n agg x) e H K Kp=aWU off n agg (e x) fun y=>K y H:=rfl
theorem a3K {off n:Nat} {agg:Bool} {x:Operand}:opD P (.fld off n agg x) e H K=aWU off n agg (e x) fun y=>K y H:=propext ⟨fun h=>h.2,fun h=>⟨rfl,h⟩⟩
theorem aLP {z:Nat} {x i:Operand}:opK P (.iad z x i) e H K Kp=aIo z (e x) (e i) fun y=>K y H:=rfl
theorem aL4 {z:Nat} {x i:Operand}:opD P (.iad z x i) e H K=aIo z (e x) (e i) fun y=>K y H:=propext ⟨fun h=>h.2,fun h=>⟨rfl,h⟩⟩
theorem aLN {x i:Operand}:opK P (.ixs x i) e H K Kp=aVb (e x) (e i) fun y=>K y H:=rfl
theorem aLT {i:Nat} {x:Operand}:opK P (.ext i x) e H K Kp=aWW i (e x) fun y=>K y H:=rfl
theorem a3L {i:Nat} {x:Operand}:opD P (.ext i x) e H K=aWW i (e x) fun y=>K y H:=propext ⟨fun h=>h.2,fun h=>⟨rfl,h⟩⟩
theorem aHl {x:Operand}:opK P (.lens x) e H K Kp=aN8 (e x) fun y=>K y H:=rfl
theorem a3a {x:Operand}:opD P (.lens x) e H K=aN8 (e x) fun y=>K y H:=propext ⟨fun h=>h.2,fun h=>⟨rfl,h⟩⟩
theorem aHm {x:Operand}:opK P (.lenl x) e H K Kp=yO (e x) fun y=>K y H:=rfl
theorem aHt {x:Operand}:opD P (.lenl x) e H K=yO (e x) fun y=>K y H:=propext ⟨fun h=>h.2,fun h=>⟨rfl,h⟩⟩
theorem aHo {x:Operand}:opK P (.capl x) e H K Kp=aP9 (e x) fun y=>K y H:=rfl
theorem aLM {n:Nat} {agg:Bool} {x:Operand}:opK P (.ldp n agg x) e H K Kp=aU8 n agg (e x) fun y=>K y H:=rfl
theorem aQY {mx:Bool} {x:Operand} {xs:List Operand}:opK P (.mm mx x xs) e H K Kp=aU5 mx (e x) (xs.map e) fun y=>K y H:=rfl
theorem aLY {zero:List AV} {ps:List (Nat×Nat×Operand)}:opK P (.bld zero ps) e H K Kp=aX0 zero (ps.map fun p=>(p.1,p.2.1,e p.2.2)) fun y=>K y H:=rfl
theorem aHn {n:Nat} {agg:Bool} {x:Operand}:opK P (.ld n agg x) e H K Kp=ldK n agg H (e x) fun y=>K y H:=rfl
theorem aQ4 {n:Nat} {agg:Bool} {x:Operand}:opD P (.ld n agg x) e H K=ldK n agg H (e x) fun y=>K y H:=rfl
theorem aLW {x:Operand}:opK P (.cbs x) e H K Kp=aF1 (rdS H 1 (e x)) fun y=>K y H:=rfl
theorem aQZ {x:Operand}:opK P (.bx x) e H K Kp=bxK (e x) H K:=rfl
theorem a4u {x:Operand}:opD P (.bx x) e H K=bxK (e x) H K:=rfl
theorem aQ0 {zero:List AV}:opK P (.al zero) e H K Kp=(zero.all AV.one=true/\lA (.ref H.length 0 0) (H++[.box zero]) K):=rfl
theorem a4v {zero:List AV}:opD P (.al zero) e H K=(zero.all AV.one=true/\lA (.ref H.length 0 0) (H++[.box zero]) K):=rfl
theorem aQW {n:Nat} {x v:Operand}:opK P (.st n x v) e H K Kp=stK n (e x) (e v) H K:=rfl
theorem aQ2 {n:Nat} {x v:Operand}:opD P (.st n x v) e H K=stK n (e x) (e v) H K:=rfl
theorem aLX {z len:Nat} {zero:AV} {ps:List (Nat×Operand)}:opK P (.bls z len zero ps) e H K Kp=aJ2 z len zero (ps.map fun p=>(p.1,e p.2)) H K:=by simp only [opK,CO.cls,bQ,aJ2,List.all_map,Function.comp_def];rfl
theorem aL8 {z len:Nat} {zero:AV} {ps:List (Nat×Operand)}:opD P (.bls z len zero ps) e H K=aJ2 z len zero (ps.map fun p=>(p.1,e p.2)) H K:=by simp only [opD,CO.cls,bQ,aJ2,List.all_map,Function.comp_def];rfl
theorem aLK {z b:Nat} {zero:AV} {x c:Operand}:opK P (.mks z b zero x c) e H K Kp=aU7 z b zero (e x) (e c) H K:=rfl
theorem aL1 {z b:Nat} {s x:Operand}:opK P (.app z b s x) e H K Kp=aKk z b (e s) (e x) (rdS H z (e s)) (rdS H z (e x)) H K:=by simp only [opK,oS,CO.cls,bQ,aKk,u5];rfl
theorem aMa {z b:Nat} {s x:Operand}:opD P (.app z b s x) e H K=aKk z b (e s) (e x) (rdS H z (e s)) (rdS H z (e x)) H K:=by simp only [opD,CO.cls,bQ,aKk,u5];rfl
theorem aHq {f:FuncId} {args:List Operand}:opK P (.call f args) e H K Kp=acK P f (args.map e) H K Kp:=rfl
theorem aHp {x:Operand} {args:List Operand}:opK P (.calv x args) e H K Kp=aJW P (e x) (args.map e) H K Kp:=by
 show iO e (.calv x args) (fun f args=>dK P f args H K Kp)=_
 simp only [iO,aJW]
 cases e x with
 | fn f a b=>cases f<;>rfl
 | _=>rfl
theorem a3b {x:Operand} {args:List Operand}:opD P (.calv x args) e H K=a4l P (e x) (args.map e) H K:=by
 show iO e (.calv x args) (fun f args=>∃ y,aI P f args H y/\K y H)=_
 simp only [iO,a4l]
 cases e x with
 | fn f a b=>cases f<;>rfl
 | _=>rfl
theorem a3c {f:FuncId} {args:List Operand}:opD P (.call f args) e H K=fcK P f (args.map e) H K:=rfl
end eqs
inductive RV where
 | tm (t:Nat)
 | ce (t:Nat) (T:TypeId) (n:Nat) (agg:Bool)
def RV.var:RV->ResultVar
 | .tm t=>.tmp t
 | .ce t T _ _=>.cell t T
def RV.okL (P:Program):List RV->Prop
 | []=>True
 | .tm _ :: l=>RV.okL P l
 | .ce t T n agg :: l=>eU P ⟨none,.load T (.tmp t),0, "",#[],none⟩=some (.ld n agg (.tmp t))/\RV.okL P l
def rF (H:List AO) (r:Nat->AV):List RV->(List AV->Prop)->Prop
 | [],K=>K []
 | .tm t :: l,K=>rF H r l fun ys=>K (r t :: ys)
 | .ce t T n agg :: l,K=>ldK n agg H (r t) fun y=>rF H r l fun ys=>K (y :: ys)
def xY (ys:List AV):AV :=
 match ys with
 | [y]=>y
 | l=>.tup l
def oN (rs:List RV) (Post:AV->List AO->Prop):AE->St->Prop
 | .exit _,_=>False
 | .pan _,_=>False
 | _,s=>rF s.H s.r.get rs fun ys=>Post (xY ys) s.H
theorem aG0 {rs:List RV} {Post:AV->List AO->Prop} {s:St}:oN rs Post .ret s=rF s.H s.r.get rs fun ys=>Post (xY ys) s.H:=rfl
theorem aG2 {H:List AO} {r:Nat->AV} {K:List AV->Prop}:rF H r [] K=K []:=rfl
theorem aQz {H:List AO} {r:bX} {t:Nat} {l:List RV} {K:List AV->Prop}:rF H r.get (.tm t :: l) K=rF H r.get l fun ys=>K (r.get t :: ys):=rfl
theorem aQA {H:List AO} {r:bX} {t n:Nat} {T:TypeId} {agg:Bool} {l:List RV} {K:List AV->Prop}:rF H r.get (.ce t T n agg :: l) K=ldK n agg H (r.get t) fun y=>rF H r.get l fun ys=>K (y :: ys):=rfl
theorem aHz {y:AV}:xY [y]=y:=rfl
theorem aHy {x y:AV} {l:List AV}:xY (x :: y :: l)= .tup (x :: y :: l):=rfl
def aAL (tmps:Array Value):ResultVar->Sem Value
 | .tmp t=>pure (tmps.getD t undef)
 | .cell t type=>do loadVar type (<- asAddr (tmps.getD t undef))
theorem z8 {fn:Func} {tmps:Array Value}:results fn tmps=(do
 let vs <- fn.results.mapM (aAL tmps)
 if h:vs.size=1 then pure vs[0] else pure (.tuple vs)):=by
 unfold results
 congr 1
 funext vs
 split<;>rfl
theorem aIV {P:Program} {E:Env} {H:List AO} {a:Act} {r:bX} {t n:Nat} {T:TypeId} {agg:Bool} {K:AV->Prop} (hc:eU P ⟨none,.load T (.tmp t),0, "",#[],none⟩=some (.ld n agg (.tmp t))) (hm:HM E H) (hv:∀ q,E.VR H.length (a.tmps.getD q undef) (r.get q))
 (h:ldK n agg H (r.get t) K):∃ v y,(aAL a.tmps (.cell t T)).run P E.w= .ok v E.w/\E.VR H.length v y/\K y:=by
 have m:Match ⟨a.tmps.size,a.defers⟩ E r.get H a:=⟨hm,hv,rfl,rfl⟩
 have hl:cP (.ld n agg (.tmp t)) (Ab.ev r.get) H K:=by
  have e:=aHn (P:=P) (n:=n) (agg:=agg) (x:=.tmp t) (e:=Ab.ev r.get) (H:=H) (K:=fun y _=>K y) (Kp:=fun _ _=>False)
  show opK P (.ld n agg (.tmp t)) (Ab.ev r.get) H (fun y _=>K y) fun _ _=>False
  rw [e]
  exact h
 obtain ⟨v,y,hr,hvr,hk⟩:=(xI hc m).1 hl
 have hx:=hv t
 have hnt:∃ A,a.tmps.getD t undef= .pointer (some A):=by
  generalize hrt:r.get t=rt at hx h
  cases rt<;>simp only [ldK] at h
  case ref id i o=>obtain ⟨L,_,_,hp⟩:=hx.mY;exact ⟨_,hp⟩
  case ip tt cs =>
   generalize a.tmps.getD t undef=u at hx ⊢
   cases hx
   exact ⟨_,rfl⟩
 obtain ⟨A,hp⟩:=hnt
 refine ⟨v,y,?_,hvr,hk⟩
 have e1:a.eval (.tmp t)=a.tmps.getD t undef:=rfl
 simp only [execOp,e1,hp,Instr.loadAt,Instr.sureAddr,pure_bind,Sem.run_bind] at hr
 generalize hq:(loadVar T A).run P E.w=q at hr
 have hq2:q= .ok v E.w:=by
  cases q with
  | ok v' w'=>simpa using hr
  | halt=>simp at hr
 simp only [aAL,hp,asAddr,pure_bind,hq,hq2]
theorem sL {P:Program} {E:Env} {H:List AO} {a:Act} {r:bX} (hm:HM E H) (hv:∀ q,E.VR H.length (a.tmps.getD q undef) (r.get q)):∀ (rs:List RV) (K:List AV->Prop),RV.okL P rs->rF H r.get rs K ->
 ∃ vs ys,(List.mapM (aAL a.tmps) (rs.map RV.var)).run P E.w= .ok vs E.w/\vs.length=ys.length/\(∀ k y,ys[k]?=some y->E.VR H.length (vs.getD k undef) y)/\K ys
 | [],K,_,h=>⟨[],[],by simp,rfl,fun k y hk=>by simp at hk,h⟩
 | .tm t :: l,K,ho,h=>by
   obtain ⟨vs,ys,h1,h2,h3,h4⟩:=sL hm hv l _ ho h
   refine ⟨a.tmps.getD t undef :: vs,r.get t :: ys,?_,by simp [h2],fun k y hk=>?_,h4⟩
   · rw [List.map_cons,List.mapM_cons]
     simp only [RV.var,aAL,pure_bind,Sem.run_bind]
     have h1':(List.mapM (aAL a.tmps) (l.map RV.var)).run P E.w= .ok vs E.w:=h1
     rw [h1',Result.andThen_ok,Sem.run_pure]
   · cases k with
     | zero=>simp at hk;subst hk;exact hv t
     | succ k=>simpa using h3 k y (by simpa using hk)
 | .ce t T n agg :: l,K,ho,h=>by
   obtain ⟨v,y,g1,g2,g3⟩:=aIV (a:=a) ho.1 hm hv h
   obtain ⟨vs,ys,h1,h2,h3,h4⟩:=sL hm hv l _ ho.2 g3
   refine ⟨v :: vs,y :: ys,?_,by simp [h2],fun k y' hk=>?_,h4⟩
   · rw [List.map_cons,List.mapM_cons]
     simp only [Sem.run_bind]
     have g1':(aAL a.tmps (RV.ce t T n agg).var).run P E.w= .ok v E.w:=g1
     rw [g1',Result.andThen_ok,h1,Result.andThen_ok,Sem.run_pure]
   · cases k with
     | zero=>simp at hk;subst hk;exact g2
     | succ k=>simpa using h3 k y' (by simpa using hk)
theorem aQy {P:Program} {fn:Func} {rs:List RV} (hr:fn.results=(rs.map RV.var).toArray) (ho:RV.okL P rs) {E:Env} {H:List AO} {a:Act} {r:bX} (hm:HM E H) (hv:∀ q,E.VR H.length (a.tmps.getD q undef) (r.get q)) {K:AV->Prop}
 (h:rF H r.get rs fun ys=>K (xY ys)):∃ v y,(results fn a.tmps).run P E.w= .ok v E.w/\E.VR H.length v y/\K y:=by
 obtain ⟨vs,ys,h1,h2,h3,h4⟩:=sL hm hv rs _ ho h
 refine ⟨if h:vs.length=1 then vs[0] else .tuple vs.toArray,xY ys,?_,?_,h4⟩
 · rw [z8,hr,List.mapM_toArray]
   simp only [map_eq_pure_bind,bind_assoc,Sem.run_bind,h1,Result.andThen_ok,pure_bind,List.size_toArray]
   split<;>simp
 · match vs,ys,h2,h3 with
   | [],[],_,_=>exact .tup (vs:=[]) rfl (fun k y hk=>by simp at hk)
   | [v],[y],_,h3=>simpa [xY] using h3 0 y rfl
   | v :: u :: l,y :: z :: m,h2,h3 =>
     rw [dif_neg (by simp)]
     exact .tup h2 h3
structure aX (P:Program) (f:FuncId) (cc:CC) (rs:List RV) (N:Nat):Prop where
 mix:P.follows .mixedOrders=true
 is:∃ fn body,P.funcs[f]?=some fn/\fn.body=some body/\(fn.name== "runtime.NumGoroutine")=false/\comp P body=some cc.bare/\cc.fits N=true/\fn.ntmps=N/\fn.results=(rs.map RV.var).toArray
 ok:RV.okL P rs
theorem aX.of {P:Program} {f:FuncId} {cc:CC} {rs:List RV} {N:Nat} (fn:Func) {body:Code} (h1:P.funcs[f]?=some fn) (h2:fn.body=some body) (ok:RV.okL P rs) (h0:P.follows .mixedOrders=true:=by kernel_rfl) (h3:(fn.name== "runtime.NumGoroutine")=false:=by kernel_rfl) (h4:comp P body=some cc.bare:=by kernel_rfl) (h5:cc.fits N=true:=by kernel_rfl) (h6:fn.ntmps=N:=by kernel_rfl) (h7:fn.results=(rs.map RV.var).toArray:=by kernel_rfl):aX P f cc rs N:=⟨h0,⟨fn,body,h1,h2,h3,h4,h5,h6,h7⟩,ok⟩
theorem aGc {P:Program} {f:FuncId} {cc:CC} {rs:List RV} {N:Nat} {args:List AV} {H:List AO} {Post:AV->List AO->Prop} (hf:aX P f cc rs N) (hn:args.length<=N) (hb:cc.base H.length=true)
 (h:aw P cc (oN rs Post) ⟨lX 0 args,H⟩):aW P f args H Post:=by
 obtain ⟨hmix,⟨fn,body,h1,h2,h3,h4,h5,h6,h7⟩,hok⟩:=hf
 refine ⟨by simp [mQ,h1,h2,h3],fun E vs hm hl hv=>?_⟩
 refine calls_of_wp h1 h2 ?_
 refine tL (N:=⟨N,[]⟩) (m0:=H.length) hmix body cc _ _ E _ _ h4 h5 hb (Nat.le_refl _) h (h6 ▸ aAD hm hl (by omega) hv) ?_
 intro e v0 a' E' s' m t hv0 q
 have fin:rF s'.H s'.r.get rs (fun ys=>Post (xY ys) s'.H)->a'.defers=[]/\∃ v,(results fn a'.tmps).run P E'.w= .ok v E'.w/\∃ v' y H' E'',Ending.returned v= .returned v'/\E''.w=E'.w/\E''.VR H'.length v' y/\HM E'' H'/\Trans E H.length E'' H'.length/\Post y H':=fun q=>by
  obtain ⟨v,y,g1,g2,g3⟩:=aQy (K:=fun y=>Post y s'.H) h7 hok m.hm m.regs q
  exact ⟨m.defers,v,g1,v,y,s'.H,E',rfl,rfl,g2,m.hm,t,g3⟩
 cases e with
 | normal=>exact fin q
 | ret=>exact fin q
 | exit id=>exact q.elim
 | pan x=>exact q.elim
theorem aO {P:Program} {f:FuncId} {cc:CC} {rs:List RV} {N:Nat} {args:List AV} {Post:AV->List AO->Prop} (hf:aX P f cc rs N) (hn:args.length<=N)
 (h:aw P cc (oN rs Post) ⟨lX 0 args,[]⟩):aW P f args [] Post:=aGc hf hn cc.eJ h
def Wk2 (r y:AV):Prop:=Wk1 r y∨∃ cs ds,r= .agg cs/\y= .agg ds/\WkL cs ds
def WkT:List AV->List AV->Prop
 | [],[]=>True
 | r :: rs,y :: ys=>Wk2 r y/\WkT rs ys
 | _,_=>False
def Wk3 (r y:AV):Prop:=Wk2 r y∨∃ rs ys,r= .tup rs/\y= .tup ys/\WkT rs ys
theorem Wk1.one {r y:AV} (h:Wk1 r y) (hr:r.one=true):y.one=true:=by
 rcases h with rfl|⟨rfl,t,z,rfl⟩
 · exact hr
 · rfl
theorem Wk2.vr {r y:AV} (h:Wk2 r y) {E:Env} {n:Nat} {v:Value} (hv:E.VR n v r):E.VR n v y:=by
 rcases h with h|⟨cs,ds,rfl,rfl,h⟩
 · exact h.vr hv
 · cases hv with
   | agg hl h1 hk =>
     refine .agg (hl.trans h.len) (fun a ha=>?_) fun k y hy=>?_
     · obtain ⟨k,hk⟩:=List.mem_iff_getElem?.1 ha
       obtain ⟨r,g1,g2⟩:=h.get k a hk
       exact g2.one (h1 r (List.mem_of_getElem? g1))
     · obtain ⟨r,g1,g2⟩:=h.get k y hy
       exact g2.vr (hk k r g1)
theorem WkT.len:∀ {rs ys:List AV},WkT rs ys->rs.length=ys.length
 | [],[],_=>rfl
 | r :: rs,y :: ys,h=>by simp [WkT.len h.2]
 | [],y :: ys,h=>h.elim
 | r :: rs,[],h=>h.elim
theorem WkT.get:∀ {rs ys:List AV},WkT rs ys->∀ (k:Nat) (y:AV),ys[k]?=some y->∃ r,rs[k]?=some r/\Wk2 r y
 | [],[],_,k,y,h=>by simp at h
 | r :: rs,q :: ys,h,0,y,hk=>by simp at hk;subst hk;exact ⟨r,rfl,h.1⟩
 | r :: rs,q :: ys,h,k+1,y,hk=>by simpa using WkT.get h.2 k y (by simpa using hk)
 | [],y :: ys,h,_,_,_=>h.elim
 | r :: rs,[],h,_,_,_=>h.elim
theorem Wk3.vr {r y:AV} (h:Wk3 r y) {E:Env} {n:Nat} {v:Value} (hv:E.VR n v r):E.VR n v y:=by
 rcases h with h|⟨rs,ys,rfl,rfl,h⟩
 · exact h.vr hv
 · obtain ⟨vs,rfl,hl,hk⟩:=hv.mU
   refine .tup (hl.trans h.len) fun k y hy=>?_
   obtain ⟨r,h1,h2⟩:=h.get k y hy
   exact h2.vr (hk k r h1)
theorem aT.wk3 {P:Program} {f:FuncId} {args:List AV} {y:AV} (h:aW P f args [] fun r _=>Wk3 r y):aT P f args y :=
 ⟨h.1,fun E vs hm hl hv=>(h.2 E vs hm hl hv).mono fun e w' ⟨v,y',H',E',h1,h2,h3,h4,h5,h6⟩=>⟨v,y,H',E',h1,h2,h6.vr h3,h4,h5,rfl⟩⟩
theorem Vw.wk {aM:Bool} {H:List AO} {a a':AV} (h:Wk3 a a') (ha:a'.low=true):Vw aM H a a':=fun G E v hm hv=>Vw.refl ha G E v hm (h.vr hv)
theorem aW.frz {P:Program} {f:FuncId} {args:List AV} {H:List AO} {Post Post':AV->List AO->Prop} (h:aW P f args H Post)
 (hk:∀ y G,Post y G->∃ id z l,G[id]?=some (.arr z l)/\Post' (y.fz id z l) (G.set id .dead)):aW P f args H Post' :=
 ⟨h.1,fun E vs hm hl hv=>(h.2 E vs hm hl hv).mono fun e w' ⟨v,y,H',E',h1,h2,h3,h4,h5,h6⟩=>by
   obtain ⟨id,z,l,k1,k2⟩:=hk _ _ h6
   obtain ⟨g1,g2,g3,g4⟩:=oC h4 k1
   refine ⟨v,y.fz id z l,H'.set id .dead,E'.jI id,h1,?_,?_,g1,?_,k2⟩
   · rw [<- h2];first|exact g2|exact g3|exact g4|rfl
   · rw [List.length_set]
     exact aIv h4 k1 h3
   · rw [List.length_set]
     refine h5.iQ (Trans.cut ?_ h5.num)
     first|exact g2|exact g3|exact g4⟩
theorem aMR {α:Type} [Inhabited α] {f:α->AV} {l:List α} {t:Bool} {z z':Nat} {k:IntKind} {j:Int} {K:AV->Prop} :
 aIo z (.sl t z' (l.map f)) (.int k j) K=(z'=z/\0<=j/\j<l.length/\cM (.ip t (f (l.getD j.toNat default)).cells) K):=by
 simp only [aIo,List.length_map]
 apply propext
 constructor<;>rintro ⟨h1,h2,h3,h4⟩<;>refine ⟨h1,h2,h3,?_⟩ <;>
  (have h5:j.toNat<l.length:=by omega
   simpa [List.getD_eq_getElem?_getD,List.getElem?_map,List.getElem?_eq_getElem h5] using h4)
theorem aMF {α:Type} [Inhabited α] {f:α->AV} {l:List α} {n:Nat} {agg:Bool} {i off z:Nat} {K:AV->Prop} :
 rG n agg i off (some (.arr z (l.map f))) K=(i<l.length/\off+n<=z/\(agg=true∨n=1)/\cM (partOf (f (l.getD i default)).cells off n agg) K):=by
 simp only [rG,List.length_map]
 apply propext
 constructor<;>rintro ⟨h1,h2,h3,h4⟩<;>refine ⟨h1,h2,h3,?_⟩ <;>
  simpa [List.getD_eq_getElem?_getD,List.getElem?_map,List.getElem?_eq_getElem h1] using h4
theorem aMQ {id z z' off len:Nat} {k:IntKind} {j:Int} {K:AV->Prop}:aIo z (.own id z' off len) (.int k j) K=(z'=z/\0<=j/\j<len/\cM (.ref id (off+j.toNat) 0) K):=rfl
theorem aMG {n:Nat} {agg:Bool} {i off:Nat} {cs:List AV} {K:AV->Prop}:rG n agg i off (some (.box cs)) K=(i=0/\off+n<=cs.length/\(agg=true∨n=1)/\cM (partOf cs off n agg) K):=rfl
def U8 (x:UInt8):AV:=.int .u8 (x.toNat:Int)
section cells
variable {k:IntKind} {n:Int} {b:Bool} {s:List UInt8} {t:Bool} {z:Nat} {l:List AV}
theorem aFZ:(AV.int k n).cells=[.int k n]:=rfl
theorem aAS:(AV.bool b).cells=[.bool b]:=rfl
theorem aFX:(AV.str s).cells=[.str s]:=rfl
theorem aIU:(AV.sl t z l).cells=[.sl t z l]:=rfl
theorem aAR:AV.aD.cells=[.aD]:=rfl
theorem aF0:(AV.agg l).cells=l:=rfl
theorem aFY {id o q:Nat}:(AV.own id z o q).cells=[.own id z o q]:=rfl
theorem a3o {f:Fn} {a c:List AV}:(AV.fn f a c).cells=[.fn f a c]:=rfl
theorem ok_int:(AV.int k n).ok=true:=rfl
theorem aMf:(AV.bool b).ok=true:=rfl
theorem aQ7:(AV.str s).ok=true:=rfl
theorem aU1:(AV.sl t z l).ok= !t:=rfl
theorem aMe:AV.aD.ok=true:=rfl
theorem aMd:(AV.int k n).one=true:=rfl
theorem aHw:(AV.bool b).one=true:=rfl
theorem aMb:(AV.str s).one=true:=rfl
theorem aQ5:(AV.sl t z l).one=true:=rfl
theorem aHv:AV.aD.one=true:=rfl
theorem aMc {id o q:Nat}:(AV.own id z o q).one=true:=rfl
theorem a4w {f:Fn} {a c:List AV}:(AV.fn f a c).one=true:=rfl
end cells
def I64 (n:Int):AV:=.int .i64 n
def SB (l:List UInt8):AV:=.sl false 1 (l.map U8)
def STR (l:List UInt8):AV:=.str l
def SI (l:List Int):AV:=.sl false 1 (l.map I64)
section aD
variable {K:Bool->Prop} {t:Bool} {z id o q:Nat} {l:List AV}
theorem aRk:oW 1 (.sl t z l) K=((l=[]->K true)/\K false):=rfl
theorem a3P:oW 1 (.own id z o q) K=((q=0->K true)/\K false):=rfl
theorem a3k:oW 1 .aD K=K true:=rfl
theorem a3O:oW 0 (.ref id o q) K=K false:=rfl
theorem aU3:aHR 1 .aD=true:=rfl
end aD
theorem rA:∀ l:List UInt8,bytesOf (l.map U8)=some l
 | []=>rfl
 | a :: l=>by
   have this:UInt8.ofNat (a.toNat:Int).toNat=a:=by simp
   show (match bytesOf (l.map U8) with
    | some s=>some (UInt8.ofNat ((a.toNat:Int)).toNat :: s)
    | none=>none)=some (a :: l)
   rw [rA l,this]
theorem aEG {l:List UInt8} {K:AV->Prop}:aF1 (some (l.map U8)) K=K (.str l):=by
 simp only [aF1,rA,Option.some.injEq,exists_eq_left']
theorem aQh {b:Bool} {K:AV->Prop}:unK .not (.bool b) K=K (.bool (!b)):=rfl
theorem aNm {K:AV->Prop}:aF1 (some []) K=K (.str []):=by simp only [aF1,bytesOf,Option.some.injEq,exists_eq_left']
theorem Vw.sU {α:Type} {f:α->AV} {H:List AO} {id z:Nat} {l:List α} (h:H[id]?=some (.arr z (l.map f))):Vw true H (.own id z 0 l.length) (.sl true z (l.map f)) :=
 Vw.own (by simp only [rdS,if_true,h,List.length_map,Nat.zero_add,Nat.le_refl,and_self,List.drop_zero];rw [List.take_of_length_le (by simp)])
theorem y6 {a x:AV} (h:x.one=true) (ha:a.one=true):dS a 0 1 [x]=x:=by
 cases a<;>simp [AV.one] at ha<;>simp [dS,AV.cells]
theorem aKF {l:List Int} {i:Nat} {n:Int}:(l.map I64).set i (dS ((l.map I64).getD i .top) 0 1 [.int .i64 n])=(l.set i n).map I64:=by
 rw [List.map_set]
 by_cases h:i<l.length
 · congr 1
   rw [List.getD_eq_getElem?_getD,List.getElem?_map,List.getElem?_eq_getElem h]
   exact y6 rfl rfl
 · rw [List.set_eq_of_length_le (by simp;omega),List.set_eq_of_length_le (by simp;omega)]
section decs
variable {a b:Int}
theorem aW0 (h:a<b):decide (a<b)=true:=decide_eq_true h
theorem aW1 (h:¬ a<b):decide (a<b)=false:=decide_eq_false h
theorem aW2 (h:a<=b):decide (a<=b)=true:=decide_eq_true h
theorem aW3 (h:¬ a<=b):decide (a<=b)=false:=decide_eq_false h
theorem aW4 (h:a=b):(a==b)=true:=beq_iff_eq.2 h
theorem aW5 (h:¬ a=b):(a==b)=false:=beq_eq_false_iff_ne.2 h
theorem aWY (h:¬ a=b):(a !=b)=true:=bne_iff_ne.2 h
theorem aWZ (h:a=b):(a !=b)=false:=by simp [h]
end decs
theorem aAF {a b:Int} {K:AV->Prop}:ik .shr .i64 a b K=(0<=b/\K (.int .i64 (a.fdiv (2^(min b.toNat 64))))):=rfl
theorem aAG {a b:Int} {K:AV->Prop}:ik .shl .i64 a b K=(0<=b/\K (.int .i64 (IntKind.i64.wrap (a*2^(min b.toNat 64))))):=rfl
theorem Vw.wA {α:Type} {f:α->AV} {H:List AO} {id z n:Nat} {l:List α} (h:H[id]?=some (.arr z (l.map f))) (hn:n=l.length):Vw true H (.own id z 0 n) (.sl true z (l.map f)):=by
 subst hn
 exact Vw.sU h
section
open Go
variable {K:AV->Prop}
theorem wrap_i64 {z:Int} (h1: -9223372036854775808<=z) (h2:z<9223372036854775808):IntKind.i64.wrap z=z:=by
 simp [IntKind.wrap,IntKind.signed,IntKind.bits]
 omega
theorem wrap_u8 (z:Int):IntKind.u8.wrap z=((BitVec.ofInt 8 z).toNat:Int):=by
 simp [IntKind.wrap,IntKind.signed,IntKind.bits,BitVec.toNat_ofInt]
 omega
theorem aFx {a b:Int}:ik .sub .u8 a b K=K (.int .u8 ((BitVec.ofInt 8 a-BitVec.ofInt 8 b).toNat:Int)):=by
 show K (.int .u8 (IntKind.u8.wrap (a-b)))=_
 rw [wrap_u8,Int.sub_eq_add_neg,BitVec.ofInt_add,BitVec.ofInt_neg,BitVec.sub_eq_add_neg]
theorem aSC {k':IntKind} {a:Int}:aM7 .u8 (.int k' a) K=cM (.int .u8 ((BitVec.ofInt 8 a).toNat:Int)) K:=by
 simp only [aM7,wrap_u8]
theorem aSj {k:IntKind} {a b:Int}:ik .lss k a b K=K (.bool (decide (a<b))):=rfl
theorem aSk {k:IntKind} {a b:Int}:ik .leq k a b K=K (.bool (decide (a<=b))):=rfl
theorem aSl {k:IntKind} {a b:Int}:ik .gtr k a b K=K (.bool (decide (a>b))):=rfl
theorem aSm {k:IntKind} {a b:Int}:ik .geq k a b K=K (.bool (decide (a>=b))):=rfl
theorem aSn {k:IntKind} {a b:Int}:ik .eql k a b K=K (.bool (a==b)):=rfl
theorem aSi {k:IntKind} {a b:Int}:ik .neq k a b K=K (.bool (a !=b)):=rfl
theorem aAI {a b:Int}:ik .add .i64 a b K=K (.int .i64 (IntKind.i64.wrap (a+b))):=rfl
theorem aAE {a b:Int}:ik .sub .i64 a b K=K (.int .i64 (IntKind.i64.wrap (a-b))):=rfl
theorem aAH {a b:Int}:ik .mul .i64 a b K=K (.int .i64 (IntKind.i64.wrap (a*b))):=rfl
theorem aSh {k:IntKind} {a b:Int}:ik .quo k a b K=(b≠0/\K (.int k (k.wrap (a.tdiv b)))):=rfl
theorem aSg {k:IntKind} {a b:Int}:ik .rem k a b K=(b≠0/\K (.int k (a.tmod b))):=rfl
theorem aM6 {k:IntKind} {a:Int}:aM7 .i64 (.int k a) K=cM (.int .i64 (IntKind.i64.wrap a)) K:=rfl
def W (x:UInt8):BitVec 32:=x.toBitVec.setWidth 32
theorem aHA (x:UInt8):BitVec.ofInt 8 (x.toNat:Int)=x.toBitVec:=by
 rw [BitVec.ofInt_natCast]
 apply BitVec.eq_of_toNat_eq
 simp
end
def aW7 (id z off len:Nat) (m:List AV) (o:Option AO) (H:List AO) (K:AV->List AO->Prop):Prop :=
 match o with
 | some (.arr z'' l)=>z''=z/\off+len<=l.length/\lA (.int .i64 ((min m.length len:Nat):Int)) (H.set id (.arr z (l.take off++m.take len++l.drop (off+min m.length len)))) K
 | _=>False
def aIH (z:Nat) (d:AV) (m:Option (List AV)) (H:List AO) (K:AV->List AO->Prop):Prop :=
 match d,m with
 | .own id z' off len,some m=>z'=z/\aW7 id z off len m H[id]? H K
 | .aD,some m=>lA (.int .i64 0) H K
 | _,_=>False
def a5d (id z off len:Nat) (zero:AV) (o:Option AO) (H:List AO) (K:AV->List AO->Prop):Prop :=
 match o with
 | some (.arr z'' l)=>(z''=z/\off+len<=l.length)/\lA (.tup []) (H.set id (.arr z (l.take off++List.replicate len zero++l.drop (off+len)))) K
 | _=>False
def a5e (z:Nat) (zero x:AV) (H:List AO) (K:AV->List AO->Prop):Prop :=
 match x with
 | .own id z' off len=>(z'=z/\zero.el z=true)/\a5d id z off len zero H[id]? H K
 | _=>False
def s3K (l:Option (List AV)) (lo hi mx:Option AV) (K:AV->Prop):Prop :=
 match l with
 | some l=>dQ mx l.length fun m=>m<=l.length/\dQ hi l.length fun h=>h<=m/\dQ lo 0 fun lw=>lw<=h/\cM .top K
 | none=>False
def aN2 (id z off len:Nat) (lo hi:Option AV) (o:Option AO) (K:AV->Prop):Prop :=
 match o with
 | some (.arr z' l)=>(z'=z/\0<z)/\dQ hi len fun h=>off+h<=l.length/\dQ lo 0 fun lw=>lw<=h/\cM (.own id z (off+lw) (h-lw)) K
 | _=>False
def aN3 (z:Nat) (x:AV) (lo hi:Option AV) (H:List AO) (K:AV->Prop):Prop :=
 match x with
 | .own id z' off len=>z'=z/\aN2 id z off len lo hi H[id]? K
 | _=>False
def a4m (id z off len:Nat) (m:List AV) (o:Option AO) (H:List AO) (K:AV->List AO->Prop):Prop :=
 match o with
 | some (.arr z'' l)=>(z''=z/\0<z/\off+len+m.length<=l.length)/\lA (.own id z off (len+m.length)) (H.set id (.arr z (l.take (off+len)++m++l.drop (off+len+m.length)))) K
 | _=>False
def a2G (z:Nat) (s:AV) (m:Option (List AV)) (H:List AO) (K:AV->List AO->Prop):Prop :=
 match s,m with
 | .own id z' off len,some m=>z'=z/\a4m id z off len m H[id]? H K
 | _,_=>False
def aN6 (id z off len:Nat) (o:Option AO) (H:List AO) (K:AV->List AO->Prop):Prop :=
 match o with
 | some (.arr z' l)=>(z'=z/\0<z/\off+len<=l.length)/\∀ c:Nat,len<=c->l.length<=off+c->lA (.ownx id z off len c) (H.set id (.arr z (l++List.replicate (off+c-l.length) (lZ z)))) K
 | _=>False
def aN7 (x:AV) (H:List AO) (K:AV->List AO->Prop):Prop :=
 match x with
 | .own id z off len=>aN6 id z off len H[id]? H K
 | .aD=>lA .aD H K
 | _=>False
def aQb (z bytes id off len:Nat) (n:Int) (zero:AV) (o:Option AO) (H:List AO) (K:AV->List AO->Prop):Prop :=
 match o with
 | some (.arr z3 l)=>(z3=z/\0<z/\off+len<=l.length)/\((len+n.toNat)*bytes<=2^47/\len+n.toNat<2^63)/\lA (.own H.length z 0 (len+n.toNat)) (H++[.arr z ((l.drop off).take len++List.replicate n.toNat zero)]) K
 | _=>False
def aKm (z bytes:Nat) (zero s x g:AV) (H:List AO) (K:AV->List AO->Prop):Prop :=
 match s,x,g with
 | .own id z1 off len,.int _ n,.ownx id2 z2 off2 _ c=>(z1=z/\z2=z/\id2=id/\zero.el z=true)/\(0<n/\off2+c<off+len+n.toNat)/\aQb z bytes id off len n zero H[id]? H K
 | _,_,_=>False
def qcK (P:Program) (f:FuncId) (args:List AV) (H:List AO) (K:AV->List AO->Prop):Prop:=QC P f args H K
def xcK (P:Program) (f:FuncId) (args:List AV) (H:List AO) (K:AV->List AO->Prop):Prop:=zN P f args H K
section eqs
variable {P:Program} {e:Operand->AV} {H:List AO} {K Kp:AV->List AO->Prop}
theorem aLV {z:Nat} {d s:Operand}:opK P (.cpy z d s) e H K Kp=aIH z (e d) (rdS H z (e s)) H K:=by
 show bQ (.cpy z d s) e H K=_
 simp only [bQ,aIH]
 generalize e d=x
 generalize rdS H z (e s)=m
 cases x<;>cases m<;>rfl
theorem aL7 {z:Nat} {d s:Operand}:opD P (.cpy z d s) e H K=aIH z (e d) (rdS H z (e s)) H K:=by
 show bQ (.cpy z d s) e H K=_
 simp only [bQ,aIH]
 generalize e d=x
 generalize rdS H z (e s)=m
 cases x<;>cases m<;>rfl
theorem a29 {z b:Nat} {s x:Operand}:opK P (.apin z b s x) e H K Kp=a2G z (e s) (rdS H z (e x)) H K:=by
 show bQ (.apin z b s x) e H K=_
 simp only [bQ,a2G]
 generalize e s=x
 generalize rdS H z _=m
 cases x<;>cases m<;>rfl
theorem a3d {z b:Nat} {s x:Operand}:opD P (.apin z b s x) e H K=a2G z (e s) (rdS H z (e x)) H K:=by
 show bQ (.apin z b s x) e H K=_
 simp only [bQ,a2G]
 generalize e s=x
 generalize rdS H z _=m
 cases x<;>cases m<;>rfl
theorem aLJ {x:Operand}:opK P (.mvx x) e H K Kp=aN7 (e x) H K:=rfl
theorem aL2 {z b:Nat} {zero:AV} {s x g:Operand}:opK P (.agz z b zero s x g) e H K Kp=aKm z b zero (e s) (e x) (e g) H K:=by
 show aA9 z b zero (e s) (e x) (e g) H K=_
 unfold aA9 aKm
 generalize e s=s1
 generalize e x=x1
 generalize e g=g1
 cases s1<;>cases x1<;>cases g1<;>rfl
theorem a3H {z:Nat} {zero:AV} {x:Operand}:opK P (.clr z zero x) e H K Kp=a5e z zero (e x) H K:=rfl
theorem a4t {z:Nat} {x mx:Operand} {lo hi:Option Operand}:opK P (.s3 z x lo hi mx) e H K Kp=s3K (rdS H z (e x)) (lo.map e) (hi.map e) (some (e mx)) fun y=>K y H:=rfl
theorem aLG {z:Nat} {x:Operand} {lo hi:Option Operand}:opK P (.sle z x lo hi) e H K Kp=aN3 z (e x) (lo.map e) (hi.map e) H fun y=>K y H:=rfl
theorem aLE {f:FuncId} {args:List Operand}:opK P (.xcl f args) e H K Kp=xcK P f (args.map e) H K:=rfl
theorem aHr {f:FuncId} {args:List Operand}:opK P (.calf f args) e H K Kp=qcK P f (args.map e) H K:=rfl
end eqs
section nx
variable {P:Program} {d:Bool} {t:Nat} {l:List aP} {r:bX} {L:St->Prop} {Lp:AV->St->Prop} {H:List AO}
theorem a3f:nxt P d t l r L Lp .any H=cF P d l ⟨(t,.any) :: r,H⟩ L Lp:=rfl
theorem aHC {i z o n c:Nat}:nxt P d t l r L Lp (.ownx i z o n c) H=cF P d l ⟨(t,.ownx i z o n c) :: r,H⟩ L Lp:=rfl
theorem a3N:nxt P d t l r L Lp .top H=cF P d l ⟨(t,.top) :: r,H⟩ L Lp:=rfl
theorem a3g:aRb P d l r L Lp .top H=cF P d l ⟨r,H⟩ L Lp:=rfl
theorem a3h {i z o n:Nat}:aRb P d l r L Lp (.own i z o n) H=cF P d l ⟨r,H⟩ L Lp:=rfl
end nx
theorem kZ {d:Nat} {k:IntKind} {i:Int} {K:Nat->Prop}:dQ (some (.int k i)) d K=(0<=i/\K i.toNat):=rfl
theorem aRn {k:IntKind} {a b:Int} {K:AV->Prop}:mmK false k a [.int k b] K=cM (.int k (min a b)) K:=by
 have:(if b<a then b else a)=min a b:=by omega
 simp only [mmK,true_and,Bool.false_eq_true,if_false,this,cM]
theorem aHZ {k:IntKind} {a b:Int} {K:AV->Prop}:mmK true k a [.int k b] K=cM (.int k (max a b)) K:=by
 have:(if b>a then b else a)=max a b:=by omega
 simp only [mmK,true_and,if_true,this,cM]
def mm2:=And.intro @aRn<| @aHZ
def aSr (z:Nat) (x i:AV) (K:AV->Prop):Prop :=
 match x,i with
 | .own id z' off len,.int _ j=>z'=z/\0<=j/\j<len/\cM (.ref id 0 ((off+j.toNat)*z)) K
 | _,_=>False
theorem aLQ {P:Program} {e:Operand->AV} {H:List AO} {K Kp:AV->List AO->Prop} {z:Nat} {x i:Operand}:opK P (.iab z x i) e H K Kp=aSr z (e x) (e i) fun y=>K y H:=rfl
theorem aL5 {P:Program} {e:Operand->AV} {H:List AO} {K:AV->List AO->Prop} {z:Nat} {x i:Operand}:opD P (.iab z x i) e H K=aSr z (e x) (e i) fun y=>K y H:=propext ⟨fun h=>h.2,fun h=>⟨rfl,h⟩⟩
def aYH:=And.intro @aLQ<|And.intro @aL5<|And.intro @aSr.eq_1<|And.intro @aLJ<|And.intro @aL2<|And.intro @a29<|And.intro @a3d<|And.intro @aLV<|And.intro @aL7<|And.intro @a3H<|And.intro @a4t<|And.intro @aLG<|And.intro @aHr<| @aLE
def aUV:=And.intro @aHC<|And.intro @aN6.eq_1<|And.intro @aN7.eq_1<|And.intro @aN7.eq_2<|And.intro @aQb.eq_1<|And.intro @aKm.eq_1<|And.intro @a4m.eq_1<|And.intro @a2G.eq_1<|And.intro @aW7.eq_1<|And.intro @aIH.eq_1<|And.intro @aIH.eq_2<|And.intro @a5d.eq_1<|And.intro @a5e.eq_1<|And.intro @s3K.eq_1<|And.intro @aN2.eq_1<|And.intro @aN3.eq_1<|And.intro @a3f<|And.intro @a3N<|And.intro @a3g<| @a3h
theorem ai {a b:Prop} (x:a) (y:b):a/\b:=⟨x,y⟩
def aA:=ai aYH<|ai @aNA<|ai @aS2<|ai @aNz<|ai @aSX<|ai @aS0<|ai @aND<|ai @aJ9<|ai @aNC<|ai @aSZ<|ai @vV<|ai @zX<|ai @aEX<|ai @uL<|ai @zD<|ai @wW<|ai @aA1<|ai @aLD<|ai @aU0<|ai @aQU<|ai @aUZ<|ai @aQS<|ai @aQT<|ai @aQX<|ai @aQ3<|ai @aHk<|ai @aHs<|ai @aLZ<|ai @aL9<|ai @aL0<|ai @a3M<|ai @aLI<|ai @aLO<|ai @a3J<|ai @aQV<|ai @aQ1<|ai @aLU<|ai @aLL<|ai @a3I<|ai @aLH<|ai @aL3<|ai @aLF<|ai @aLS<|ai @aL6<|ai @aLR<|ai @a3K<|ai @aLP<|ai @aL4<|ai @aLN<|ai @aLT<|ai @a3L<|ai @aHl<|ai @a3a<|ai @aHm<|ai @aHt<|ai @aHo<|ai @aQY<|ai @aLY<|ai @aHn<|ai @aQ4<|ai @aLW<|ai @aQZ<|ai @a4u<|ai @aQ0<|ai @a4v<|ai @aQW<|ai @aQ2<|ai @aLX<|ai @aL8<|ai @aLK<|ai @aL1<|ai @aMa<|ai @aHp<|ai @a3b<|ai @aHq<|ai @a3c<|ai @aSY<|ai @aLM<|ai @aNB<|ai @aLC<| @aLB
def aUU:=ai @aS3<|ai @z9<|ai @aAa<|ai @aY8<|ai @aY9<|ai @aWP<|ai @aWS<|ai @aWQ<|ai @aWR<|ai @aY3<|ai @aMk<|ai @aHE<|ai @aMh<|ai @aHD<|ai @a3e<|ai @aQ8<|ai @aMj<|ai @aMi<|ai @aQ9<|ai @aMl<|ai @aMg<|ai @aRa<|ai @aHF<|ai @a3i<|ai @bK<|ai @bE<|ai @aSw<|ai @aSy<|ai @aM4<|ai @aSx<|ai @aM2<|ai @a3U<|ai @aJ3<|ai @aJ4<|ai @aJ5<|ai @aMR<|ai @aMF<|ai @aMQ<|ai @aMG<| @aJZ
def aB:=ai @aW0<|ai @aW1<|ai @aW2<|ai @aW3<|ai @aW4<|ai @aW5<|ai @aWY<| @aWZ
def aY4:=ai @aQh<|ai @aRk<|ai @a3P<|ai @a3k<|ai @a3O<|ai @aU3<|ai @aFZ<|ai @aAS<|ai @aFX<|ai @aIU<|ai @aAR<|ai @aF0<|ai @aFY<|ai @a3o<|ai @ok_int<|ai @aMf<|ai @aQ7<|ai @aU1<|ai @aMe<|ai @aMd<|ai @aHw<|ai @aMb<|ai @aQ5<|ai @aHv<|ai @aMc<| @a4w
def aY2:=ai @aAF<|ai @aAG<|ai @aSj<|ai @aSk<|ai @aSl<|ai @aSm<|ai @aSn<|ai @aSi<|ai @aAI<|ai @aAE<|ai @aAH<|ai @aSh<|ai @aSg<|ai @aM6<|ai @aFx<|ai @aSC<| @aHA
def aYt:=ai @aG0<|ai @aG2<|ai @aQz<|ai @aQA<|ai @aHz<| @aHy
theorem aAq {α β:Type} {f:α->β} {l:List α} {i:Nat}:(l.map f).drop i=(l.drop i).map f:=List.map_drop.symm
theorem aAp {α β:Type} {f:α->β} {l:List α} {i:Nat}:(l.map f).take i=(l.take i).map f:=List.map_take.symm
theorem wD {α β:Type} {f:α->β} {l m:List α}:l.map f++m.map f=(l++m).map f:=List.map_append.symm
def aYL:=(ai @aEG (ai @aNm (ai @List.map_cons.{0,0} (ai @List.map_nil.{0,0} (ai @List.flatMap_cons.{0,0} (ai @List.flatMap_nil.{0,0} (ai @Bool.false_eq_true (ai @Option.map_some.{0,0} (ai @Option.map_none.{0,0} (ai @List.length_nil.{0} (ai @List.length_cons.{0} (ai @List.nil_append.{0} (ai @List.cons_append.{0} (ai @and_true (ai @true_and (ai @or_true (ai @true_or (ai @and_self (ai @List.getElem?_cons_zero.{0} (ai @List.getElem?_cons_succ.{0} (ai @List.set_cons_zero.{0} (ai @List.set_cons_succ.{0} (ai @List.drop_zero.{0} (ai @List.length_map.{0,0} (ai @List.length_append.{0} (ai @Nat.zero_add (ai @Nat.add_zero (ai @Nat.le_refl (ai @decide_true (ai @decide_false (ai @List.all_cons.{0} (ai @List.all_nil.{0} (ai @Bool.and_true (ai @Bool.and_self (ai @Bool.true_and (ai @Bool.not_false (ai @Bool.not_true (ai @beq_self_eq_true.{0} (ai @List.take_length.{0} (ai @List.take_succ_cons.{0} (ai @List.take_zero.{0} (ai @List.take_nil.{0} (ai @List.drop_succ_cons.{0} (ai @List.drop_nil.{0} (ai @Nat.mul_one (ai @List.replicate_succ.{0} (ai @List.replicate_zero.{0} (ai @wrap_i64 (ai @Int.sub_self (ai @Int.sub_zero (ai @Int.toNat_natCast (ai @List.length_drop.{0} (ai @List.length_take.{0} (ai @false_and (ai @and_false (ai @false_or (ai @or_false (ai @not_false_eq_true (ai @not_true_eq_false (ai @forall_const.{0} (ai @List.getD_cons_zero.{0} (ai @List.getD_cons_succ.{0} (ai @bne_self_eq_false.{0} (ai @List.length_replicate.{0} (ai @Int.natCast_one (ai @Int.natCast_zero (ai @Nat.min_self (ai @Nat.sub_self (ai @aAq (ai @aAp @wD))))))))))))))))))))))))))))))))))))))))))))))))))))))))))))))))))))))
theorem aQP {x:AV} {l:List AV} {off n:Nat} {agg:Bool}:partOf (x :: l) (off+1) n agg=partOf l off n agg:=by
 unfold partOf
 simp
theorem aLv {x:AV} {l:List AV}:partOf (x :: l) 0 1 false=x:=rfl
theorem aLu {x:AV} {l:List AV} {n:Nat}:partOf (x :: l) 0 (n+1) true= .agg (x :: l.take n):=rfl
def aYn:=ai @aHg.eq_1<|ai @uM.eq_1<|ai @uM.eq_2<|ai @aX1.eq_1<|ai @slK.eq_1<|ai @slK.eq_2<|ai @dQ.eq_1<|ai @dQ.eq_2<|ai @aUi.eq_1<|ai @aIz.eq_1<|ai @aIz.eq_2<|ai @aIz.eq_3<|ai @aWU.eq_1<|ai @aVb.eq_1<|ai @aWW.eq_1<|ai @aN8.eq_1<|ai @aU8.eq_1<|ai @yO.eq_1<|ai @yO.eq_2<|ai @yO.eq_3<|ai @aP9.eq_2<|ai @aU5.eq_1<|ai @aX0.eq_1<|ai @ldK.eq_1<|ai @ldK.eq_2<|ai @bxK.eq_1<|ai @aQj.eq_1<|ai @aQj.eq_2<|ai @stK.eq_1<|ai @aJ2.eq_1<|ai @aU7.eq_1<|ai @aKk.eq_1<|ai @aJW.eq_1<|ai @aJW.eq_2<|ai @sk.eq_1<|ai @sk.eq_2<|ai @sk.eq_3<|ai @sk.eq_4<|ai @sk.eq_5<|ai @hZ.eq_1<|ai @tF.eq_1<|ai @tF.eq_2<|ai @AV.ids.eq_1<|ai @AV.ids.eq_2<|ai @AV.yV.eq_1<|ai @AV.yV.eq_2<|ai @AV.aMP.eq_1<|ai @AV.aMP.eq_2<|ai @lX.eq_1<|ai @lX.eq_2<|ai @qO.eq_1<|ai @rdS.eq_1<|ai @rdS.eq_2<|ai @rdS.eq_3<|ai @AV.fz1.eq_1<|ai @AV.el.eq_1<|ai @jR.eq_1<| @jR.eq_2
section
variable {k:IntKind} {n:Int} {b t:Bool} {s:List UInt8} {z i j o d w:Nat} {l m e:List AV} {f:Fn} {q:TypeId} {x:AV} {H:List AO}
theorem u1:AV.yV (.int k n)=[]:=rfl
theorem u2:AV.aMP (.int k n)=[]:=rfl
theorem u3:AV.ids (.int k n)=[]:=rfl
theorem u4:AV.fz1 d w e (.int k n)=(.int k n):=rfl
theorem u6:AV.fz d w e (.int k n)=(.int k n):=rfl
theorem u8:hZ H (.int k n)=H:=rfl
theorem u11:AV.ids (.bool b)=[]:=rfl
theorem u14:AV.fz d w e (.bool b)=(.bool b):=rfl
theorem u17:AV.yV (.str s)=[]:=rfl
theorem u19:AV.ids (.str s)=[]:=rfl
theorem u20:AV.fz1 d w e (.str s)=(.str s):=rfl
theorem u22:AV.fz d w e (.str s)=(.str s):=rfl
theorem u35:AV.ids (.aD)=[]:=rfl
theorem u39:x9 (.aD)=true:=rfl
theorem u40:hZ H (.aD)=H:=rfl
theorem u65:AV.yV (.sl t z l)=[]:=rfl
theorem u67:AV.ids (.sl t z l)=[]:=rfl
theorem u68:AV.fz1 d w e (.sl t z l)=(.sl t z l):=rfl
theorem u70:AV.fz d w e (.sl t z l)=(.sl t z l):=rfl
theorem u75:AV.ids (.own i z o j)=[i]:=rfl
theorem u78:AV.fz d w e (.own i z o j)=if i=d/\z=w/\o+j<=e.length then .sl false w ((e.drop o).take j) else (.own i z o j):=rfl
theorem u79:x9 (.own i z o j)=true:=rfl
theorem u83:AV.ids (.ref i j o)=[]:=rfl
theorem u86:AV.fz d w e (.ref i j o)=(.ref i j o):=rfl
theorem u99:AV.ids (.agg l)=l.flatMap AV.yV:=rfl
theorem aYq:AV.fz d w e (.agg l)= .agg (l.map (AV.fz1 d w e)):=rfl
variable {rs:List Nat} {Q R:AV->List AO->Prop} {S:St} {r:Nat->AV}
theorem aYp:aG1 rs Q .ret S=Q (qO rs S.r.get) S.H:=rfl
theorem aYo:qO (i :: j :: rs) r= .tup ((i :: j :: rs).map r):=rfl
end
def aYm:=ai @u1<|ai @u3<|ai @u4<|ai @u6<|ai @u11<|ai @u14<|ai @u17<|ai @u19<|ai @u20<|ai @u22<|ai @u35<|ai @u39<|ai @u40<|ai @u65<|ai @u67<|ai @u68<|ai @u70<|ai @u75<|ai @u78<|ai @u79<|ai @u83<|ai @u86<|ai @u99<|ai @aYq<|ai @aYp<| @aYo
theorem v1:AV.yV .any=[]:=rfl
theorem v2:AV.aMP .any=[]:=rfl
theorem v3:AV.ids .any=[]:=rfl
theorem v5 {d w:Nat} {e:List AV}:AV.fz2 d w e .any= .any:=rfl
theorem v6 {d w:Nat} {e:List AV}:AV.fz d w e .any= .any:=rfl
def aC:=ai aUV<|ai aYn<|ai aYm<|ai @aQP<|ai @aLv<|ai @aLu<|ai aUU<|ai aY2<|ai aY4<|ai aYt<|aYL
section borrow
theorem aW.aIa {P:Program} {aM:Bool} {f:FuncId} {args args':List AV} {H:List AO} {Post:AV->Prop} (h:aW P f args' [] fun y _=>Post y) (ha:Vws aM H args args') (hp:∀ y,Post y->y.low=true/\(aM=true->y.aM=false)) :
 aW P f args H fun y H'=>Post y/\H'=H:=by
 refine ⟨h.1,fun E vs hm hlen hv=>?_⟩
 have hm':HM E (H++[]):=by rw [List.append_nil];exact hm
 have h0:HM (E.sub aM) []:=by cases aM;exact aBu hm;exact aBH hm
 have h1:(E.sub aM).w=E.w:=by cases aM<;>rfl
 have h2:∀ b,¬ (E.sub aM).O b:=by cases aM<;>exact fun _ h=>h
 have key:=h.2 (E.sub aM) vs h0 (by rw [hlen,ha.len]) fun k q hq=>by
  obtain ⟨a,hk,hv'⟩:=ha.get k q hq
  exact hv' [] E _ hm' (by rw [List.append_nil];exact hv k a hk)
 rw [h1] at key
 refine key.mono fun e w' ⟨v,y',H',E',h3,h4,h5,h6,h7,h8⟩=>?_
 obtain ⟨hy,hl⟩:=hp _ h8
 obtain ⟨b1,b2⟩:=aEK hm h1 h2 h6 h7
 refine ⟨v,y',H,E.back E',h3,h4,aEJ h1 h2 h7 h5 hy (fun t b ht hs=>?_),b1,b2,h8,rfl⟩
 cases aM with
 | false=>exact hs
 | true=>exact hs.elim id fun hs=>absurd (ht hs.1) (by rw [hl rfl];simp)
end borrow
theorem a7 {P:Program} {f:FuncId} {args:List AV} {H:List AO} {K:AV->List AO->Prop} {p:AV->Prop} (h:aW P f args [] fun y _=>p y) (ha:args.all AV.low=true) (hp:∀ y,p y->y.low=true) (hk:∀ y,p y->K y H):qcK P f args H K :=
 ⟨p,fun _=>aW.aIa (aM:=false) h (.refl ha) fun y hy=>⟨hp y hy,by simp⟩,hk⟩
theorem bP {P:Program} {f:FuncId} {args:List AV} {H:List AO} {K:AV->List AO->Prop} {y:AV} (h:aT P f args y) (ha:args.all AV.low=true) (hp:y.low=true) (hk:K y H):qcK P f args H K :=
 a7 (p:=fun z=>z=y) h ha (fun _ e=>e ▸ hp) fun _ e=>e ▸ hk
theorem aH {P:Program} {f:FuncId} {args:List AV} {H:List AO} {K Kp:AV->List AO->Prop} {p:AV->Prop} (h:aW P f args [] fun y _=>p y) (ha:args.all AV.low=true) (hp:∀ y,p y->y.low=true) (hk:∀ y,p y->K y H):acK P f args H K Kp :=
 (aW.aIa (aM:=false) h (.refl ha) fun y hy=>⟨hp y hy,by simp⟩).to fun y G ⟨h1,h2⟩=>by subst h2;exact hk y h1
def sZ:List (Option Nat)->Bool
 | []=>true
 | none :: l=>sZ l
 | some k :: l=> !(l.any fun x=>x==some k)&&sZ l
theorem p4:∀ {l:List (Option Nat)},sZ l=true->(l.filterMap fun x=>x).Nodup
 | [],_=>by simp
 | none :: l,h=>by simpa using p4 (l:=l) h
 | some k :: l,h=>by
   unfold sZ at h
   rw [Bool.and_eq_true] at h
   have e:((some k :: l).filterMap fun x=>x)=k :: l.filterMap fun x=>x:=rfl
   rw [e,List.nodup_cons]
   refine ⟨fun hm=>?_,p4 h.2⟩
   obtain ⟨a,ha,e⟩:=List.mem_filterMap.1 hm
   have:(l.any fun x=>x==some k)=true:=List.any_eq_true.2 ⟨a,ha,by rw [show a=some k from e];simp⟩
   rw [this] at h
   simp at h
theorem Sub.of0 {r:bX} {H:List AO} {r1:bX} {H1:List AO} (ρ:List (Option Nat)) (hn:sZ ρ=true)
 (h3:cQ H (names ρ) ρ H1) (h4:H1.all (fun o=>o.bo (names ρ) H1.length)=true) (h5:cV r (names ρ) H1.length r1):Sub 0 ⟨r,H⟩ ⟨r1,H1⟩ :=
 Sub.ofL ρ rfl (Nat.zero_le _) (p4 hn) h3 h4 h5
theorem Sub.ofS {r:bX} {H:List AO} {r1:bX} {H1:List AO} (ρ:List (Option Nat)) (hn:sZ ρ=true:=by exact rfl) (h4:H1.all (fun o=>o.bo (names ρ) H1.length)=true:=by exact rfl)
 (h3:cQ H (names ρ) ρ H1:=by repeat' first|trivial|rfl|exact .inl rfl|exact .inr ⟨rfl,_,_,rfl⟩|(simp;done)|(simp;omega)|refine And.intro ?_ ?_)
 (h5:cV r (names ρ) H1.length r1:=by repeat' first|trivial|rfl|exact .inl rfl|exact .inr ⟨rfl,_,_,rfl⟩|(simp;done)|(simp;omega)|refine And.intro ?_ ?_):Sub 0 ⟨r,H⟩ ⟨r1,H1⟩ :=
 Sub.of0 ρ hn h3 h4 h5
end Go.Ab
