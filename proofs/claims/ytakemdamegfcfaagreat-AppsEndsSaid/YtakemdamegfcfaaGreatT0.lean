/- A part of a proof: how code is told and stepped through. No condition. -/
import Derived.Calls
import Derived.Tactics
import Derived.Orders
import Derived.Still
import Derived.Laws.World
import Derived.Laws.Cells
import Derived.Laws.Rows
import Derived.Below
import Derived.Laws.StructEq
import Derived.Laws.Small
import Derived.Laws.Slices
import Derived.Deep.MidRow
import Derived.ChangeKeysEq
import Derived.WalkSpells
set_option linter.unusedSimpArgs false
set_option linter.unusedVariables false
namespace Go.Ab
open Go
inductive AV where
 | int (k:IntKind) (n:Int)
 | bool (b:Bool)
 | str (s:List UInt8)
 | nilp|aD|nilf|nili|cD
 | sl (t:Bool) (z:Nat) (l:List AV)
 | own (id z off len:Nat)
 | ref (id i off:Nat)
 | ip (t:Bool) (cs:List AV)
 | agg (cs:List AV)
 | tup (vs:List AV)
 | fn (f:Fn) (first cap:List AV)
 | ifc (t:TypeId) (x:AV)
 | any
 | ownx (id z off len c:Nat)
 | top
 deriving Inhabited
def AV.cells:AV->List AV
 | .agg cs=>cs
 | x=>[x]
def AV.one:AV->Bool
 | .agg _| .tup _| .top=>false
 | _=>true
def AV.mA:AV->Bool
 | .int _ _| .bool _| .str _=>true
 | _=>false
def AV.ok:AV->Bool
 | .int _ _| .bool _| .str _| .nilp| .aD| .nilf| .nili| .cD| .any=>true
 | .sl t _ _=> !t
 | .fn _ f c=>f.isEmpty&&c.isEmpty
 | .ifc _ x=>x.mA
 | _=>false
def AV.el (z:Nat) (a:AV):Bool:=a.cells.length==z&&a.cells.all AV.ok
def flat (l:List AV):List AV:=l.flatMap AV.cells
theorem AV.eF {a:AV} (h:a.ok=true):a.one=true:=by
 cases a<;>simp_all [AV.ok,AV.one]
structure Loc where
 b:Nat
 o:Nat
 n:Nat
 z:Nat
inductive VR (w:World) (S:Bool->Nat->Prop) (μ:Nat->Option Loc) (n:Nat):Value->AV->Prop where
 | int {k:IntKind} {x:Int}:VR w S μ n (.int k x) (.int k x)
 | bool {b:Bool}:VR w S μ n (.bool b) (.bool b)
 | str {s:ByteArray} {l:List UInt8} (h:s.data.toList=l):VR w S μ n (.string s) (.str l)
 | nilp:VR w S μ n (.pointer none) .nilp
 | aD:VR w S μ n (.slice none 0 0) .aD
 | nilf:VR w S μ n .nilFunc .nilf
 | nili:VR w S μ n .nilIface .nili
 | cD:VR w S μ n (.map none) .cD
 | sl0 {t:Bool} {z:Nat} {A:Option Addr} {c:Nat}:VR w S μ n (.slice A 0 c) (.sl t z [])
 | sl {t:Bool} {l:List AV} {b o c z m:Nat} (u:Nat->Value) (hm:m=l.length) (hlen:l.length<=c) (hS:S t b) (hel:∀ a∈l,a.el z=true)
    (hc:∀ k,k<(flat l).length->w.cell? ⟨b,o+k,none⟩=some (u k)) (hv:∀ k y,(flat l)[k]?=some y->VR w S μ n (u k) y) :
    VR w S μ n (.slice (some ⟨b,o,none⟩) m c) (.sl t z l)
 | own0 {id z off:Nat} {A:Option Addr} (h:id<n) (he:∀ L,μ id=some L->L.n<=L.o+off*z):VR w S μ n (.slice A 0 0) (.own id z off 0)
 | own {id z off len c:Nat} {L:Loc} (h:id<n) (hL:μ id=some L) (hz:L.z=z) (hlen:len<=c) (hc:L.o+(off+c)*z=L.n) :
    VR w S μ n (.slice (some ⟨L.b,L.o+off*z,none⟩) len c) (.own id z off len)
 | ref {id i off:Nat} {L:Loc} (h:id<n) (hL:μ id=some L):VR w S μ n (.pointer (some ⟨L.b,L.o+i*L.z+off,none⟩)) (.ref id i off)
 | ip {t:Bool} {cs:List AV} {b o:Nat} (u:Nat->Value) (hS:S t b) (hok:∀ a∈cs,a.ok=true)
    (hc:∀ k,k<cs.length->w.cell? ⟨b,o+k,none⟩=some (u k)) (hv:∀ k y,cs[k]?=some y->VR w S μ n (u k) y) :
    VR w S μ n (.pointer (some ⟨b,o,none⟩)) (.ip t cs)
 | agg {vs:List Value} {cs:List AV} (hl:vs.length=cs.length) (h1:∀ a∈cs,a.one=true) (hv:∀ k y,cs[k]?=some y->VR w S μ n (vs.getD k undef) y) :
    VR w S μ n (.agg vs.toArray) (.agg cs)
 | tup {vs:List Value} {cs:List AV} (hl:vs.length=cs.length) (hv:∀ k y,cs[k]?=some y->VR w S μ n (vs.getD k undef) y) :
    VR w S μ n (.tuple vs.toArray) (.tup cs)
 | fn {f:Fn} {as bs:List Value} {cs ds:List AV} (hl:as.length=cs.length) (hk:bs.length=ds.length)
    (hv:∀ k y,cs[k]?=some y->VR w S μ n (as.getD k undef) y) (hu:∀ k y,ds[k]?=some y->VR w S μ n (bs.getD k undef) y) :
    VR w S μ n (.func f as.toArray bs.toArray) (.fn f cs ds)
 | ifc {t:TypeId} {x:Value} {y:AV} (h:VR w S μ n x y):VR w S μ n (.iface t x) (.ifc t y)
 | any {x:Value} (h:x.oneCell'=true):VR w S μ n x .any
 | ownx0 {id z off:Nat} {A:Option Addr} (h:id<n) (he:∀ L,μ id=some L->L.n<=L.o+off*z):VR w S μ n (.slice A 0 0) (.ownx id z off 0 0)
 | ownx {id z off len c:Nat} {L:Loc} (h:id<n) (hL:μ id=some L) (hz:L.z=z) (hlen:len<=c) (hc:L.o+(off+c)*z=L.n) :
    VR w S μ n (.slice (some ⟨L.b,L.o+off*z,none⟩) len c) (.ownx id z off len c)
 | top {x:Value}:VR w S μ n x .top
inductive AO where
 | dead
 | box (cs:List AV)
 | arr (z:Nat) (l:List AV)
 deriving Inhabited
structure Env where
 w:World
 S:Bool->Nat->Prop
 μ:Nat->Option Loc
 O:Nat->Prop
abbrev Env.VR (E:Env) (n:Nat) (x:Value) (y:AV):Prop:=Ab.VR E.w E.S E.μ n x y
def fP (fz:Nat×Nat) (n:Nat):Prop:=fz.1=fz.2∨n<=fz.1
theorem fP.at {fz:Nat×Nat} {n k:Nat} (h:fP fz n) (hk:k<n):¬ (fz.1<=k/\k<fz.2):=by
 rcases h with h|h<;>omega
def Env.holds (E:Env) (n:Nat) (id:Nat):AO->Prop
 | .dead=>True
 | .box cs=>∃ L u t fz,E.μ id=some L/\E.O L.b/\L.o=0/\L.n=cs.length/\E.w.heap[L.b]?=some (.cells u t fz)/\u.size=L.n/\fP fz L.n /\
     (∀ a∈cs,a.one=true)/\∀ k y,cs[k]?=some y->E.VR n (u.getD k undef) y
 | .arr z l=>(E.μ id=none/\l=[]) ∨
     ∃ L u t fz,E.μ id=some L/\E.O L.b/\L.z=z/\L.o+l.length*z<=L.n/\E.w.heap[L.b]?=some (.cells u t fz)/\u.size=L.n/\fP fz L.n /\
     (∀ a∈l,a.el z=true)/\(∀ k y,(flat l)[k]?=some y->E.VR n (u.getD (L.o+k) undef) y)/\(∀ k,L.o+l.length*z<=k->k<L.n->(u.getD k undef).oneCell'=true)/\(z=1∨fz.1=fz.2)
def AO.live:AO->Bool
 | .dead=>false
 | _=>true
structure HM (E:Env) (H:List AO):Prop where
 obj:∀ id o,H[id]?=some o->E.holds H.length id o
 inj:∀ i j oi oj Li Lj,i≠j->H[i]?=some oi->H[j]?=some oj->oi.live=true->oj.live=true->E.μ i=some Li->E.μ j=some Lj->Li.b≠Lj.b
 disj:∀ b,E.O b->∀ t,¬ E.S t b
 bound:∀ b,E.O b->b<E.w.heap.size
 sbound:∀ t b,E.S t b->b<E.w.heap.size
 sub:∀ b,E.S false b->E.S true b
structure Trans (E:Env) (n:Nat) (E':Env) (n':Nat):Prop where
 os:E'.w.os=E.w.os
 tape:E'.w.tape=E.w.tape
 output:E'.w.output=E.w.output
 size:E.w.heap.size<=E'.w.heap.size
 keep:∀ b,b<E.w.heap.size->¬ E.O b->E'.w.heap[b]?=E.w.heap[b]?
 grow:∀ t b,E.S t b->E'.S t b
 born:∀ t b,E'.S t b->E.S t b∨E.O b∨E.w.heap.size<=b
 owns:∀ b,E'.O b->E.O b∨E.w.heap.size<=b
 mu:∀ id,id<n->E'.μ id=E.μ id
 num:n<=n'
theorem Trans.refl (E:Env) (n:Nat):Trans E n E n :=
 ⟨rfl,rfl,rfl,Nat.le_refl _,fun _ _ _=>rfl,fun _ _ h=>h,fun _ _ h=>.inl h,fun _ h=>.inl h,fun _ _=>rfl,Nat.le_refl _⟩
theorem Trans.trans {E E' E'':Env} {n n' n'':Nat} (h:Trans E n E' n') (k:Trans E' n' E'' n''):Trans E n E'' n'' where
 os:=k.os.trans h.os
 tape:=k.tape.trans h.tape
 output:=k.output.trans h.output
 size:=Nat.le_trans h.size k.size
 keep:=fun b hb ho=>(k.keep b (Nat.lt_of_lt_of_le hb h.size) (fun o'=>(h.owns b o').elim ho (fun g=>by omega))).trans (h.keep b hb ho)
 grow:=fun t b hs=>k.grow t b (h.grow t b hs)
 born:=fun t b hs=>by
  rcases k.born t b hs with h1|h1|h1
  · exact h.born t b h1
  · rcases h.owns b h1 with h2|h2
    · exact .inr (.inl h2)
    · exact .inr (.inr h2)
  · exact .inr (.inr (Nat.le_trans h.size h1))
 owns:=fun b ho=>by
  rcases k.owns b ho with h1|h1
  · exact h.owns b h1
  · exact .inr (Nat.le_trans h.size h1)
 mu:=fun id hi=>(k.mu id (Nat.lt_of_lt_of_le hi h.num)).trans (h.mu id hi)
 num:=Nat.le_trans h.num k.num
theorem VR.mono {w w':World} {S S':Bool->Nat->Prop} {μ μ':Nat->Option Loc} {n n':Nat} {x:Value} {y:AV} (h:VR w S μ n x y)
 (hS:∀ t b,S t b->S' t b) (hc:∀ t b o v,S t b->w.cell? ⟨b,o,none⟩=some v->w'.cell? ⟨b,o,none⟩=some v)
 (hμ:∀ id,id<n->μ' id=μ id) (hn:n<=n'):VR w' S' μ' n' x y:=by
 induction h with
 | int=>exact .int
 | bool=>exact .bool
 | str h=>exact .str h
 | nilp=>exact .nilp
 | aD=>exact .aD
 | nilf=>exact .nilf
 | nili=>exact .nili
 | cD=>exact .cD
 | sl0=>exact .sl0
 | sl u hm hlen hS1 hel hc1 _ ih=>exact .sl u hm hlen (hS _ _ hS1) hel (fun k hk=>hc _ _ _ _ hS1 (hc1 k hk)) ih
 | own0 h he=>exact .own0 (by omega) fun L hL=>he L ((hμ _ h).symm.trans hL)
 | own h hL hz hlen hcap=>exact .own (by omega) ((hμ _ h).trans hL) hz hlen hcap
 | ref h hL=>exact .ref (by omega) ((hμ _ h).trans hL)
 | ip u hS1 hok hc1 _ ih=>exact .ip u (hS _ _ hS1) hok (fun k hk=>hc _ _ _ _ hS1 (hc1 k hk)) ih
 | agg hl h1 _ ih=>exact .agg hl h1 ih
 | tup hl _ ih=>exact .tup hl ih
 | fn hl hk _ _ ih1 ih2=>exact .fn hl hk ih1 ih2
 | ifc _ ih=>exact .ifc ih
 | any h=>exact .any h
 | ownx0 h he=>exact .ownx0 (by omega) fun L hL=>he L ((hμ _ h).symm.trans hL)
 | ownx h hL hz hlen hcap=>exact .ownx (by omega) ((hμ _ h).trans hL) hz hlen hcap
 | top=>exact .top
theorem cell_of_heap {w w':World} {b:Nat} (h:w'.heap[b]?=w.heap[b]?) (o:Nat):w'.cell? ⟨b,o,none⟩=w.cell? ⟨b,o,none⟩:=by
 simp [World.cell?,h]
theorem VR.trans {E E':Env} {n n':Nat} {H:List AO} {x:Value} {y:AV} (h:E.VR n x y) (hm:HM E H) (t:Trans E n E' n'):E'.VR n' x y :=
 VR.mono h t.grow (fun tt b o v hs hc=>by
   rw [cell_of_heap (t.keep b (hm.sbound tt b hs) (fun ho=>hm.disj b ho tt hs))];exact hc) t.mu t.num
abbrev bX:=List (Nat×AV)
def bX.get:bX->Nat->AV
 | [],_=>.top
 | (k,v) :: r,t=>if k=t then v else bX.get r t
def aAj:Value->AV
 | .int k n=>.int k n
 | .bool b=>.bool b
 | .string s=>.str s.data.toList
 | .pointer none=>.nilp
 | .slice none 0 0=>.aD
 | .nilFunc=>.nilf
 | .nilIface=>.nili
 | .map none=>.cD
 | _=>.top
def ofV:Value->AV
 | .agg cs=>if (cs.toList.map aAj).all AV.one then .agg (cs.toList.map aAj) else .top
 | .tuple vs=>if vs.isEmpty then .tup [] else .top
 | v=>aAj v
theorem vU {w:World} {S:Bool->Nat->Prop} {μ:Nat->Option Loc} {n:Nat} (x:Value):VR w S μ n x (aAj x):=by
 unfold aAj
 split<;>first|exact .int|exact .bool|exact .str rfl|exact .nilp|exact .aD|exact .nilf|exact .nili|exact .cD|exact .top
theorem aQf {w:World} {S:Bool->Nat->Prop} {μ:Nat->Option Loc} {n:Nat} (x:Value):VR w S μ n x (ofV x):=by
 unfold ofV
 split
 · rename_i cs
   split
   · rename_i h
     have e:cs=cs.toList.toArray:=by simp
     conv=>lhs;rw [e]
     refine .agg (by simp) (fun a ha=>List.all_eq_true.1 h a ha) (fun k y hk=>?_)
     rw [List.getElem?_map] at hk
     cases hc:cs.toList[k]? with
     | none=>rw [hc] at hk;simp at hk
     | some v =>
       rw [hc] at hk
       simp only [Option.map_some,Option.some.injEq] at hk
       subst hk
       rw [List.getD_eq_getElem?_getD,hc]
       exact vU v
   · exact .top
 · rename_i vs
   split
   · rename_i h
     have e:vs= #[]:=by simpa using h
     subst e
     exact .tup (vs:=[]) rfl (fun k y hk=>by simp at hk)
   · exact .top
 · exact vU x
def ev (g:Nat->AV):Operand->AV
 | .tmp t=>g t
 | .const v=>ofV v
 | .func f=>.fn (.func f) [] []
 | .global _=>.top
inductive CO where
 | mv (x:Operand)
 | pick (c a b:Operand)
 | bin (op:BinOp) (x y:Operand)
 | beq (neg:Bool) (x y:Operand)
 | seq (neg:Bool) (ks:List AV) (x y:Operand)
 | isn (k:Nat) (neg:Bool) (x y:Operand)
 | un (op:UnOp) (x:Operand)
 | cvi (k:IntKind) (x:Operand)
 | mkf (fn:Fn) (first cap:List Operand)
 | slc (z:Nat) (x:Operand) (lo hi:Option Operand)
 | sls (x:Operand) (lo hi:Option Operand)
 | fad (off:Nat) (x:Operand)
 | fld (off n:Nat) (agg:Bool) (x:Operand)
 | iad (z:Nat) (x i:Operand)
 | ixs (x i:Operand)
 | ext (i:Nat) (x:Operand)
 | lens (x:Operand)
 | lenl (x:Operand)
 | capl (x:Operand)
 | mm (mx:Bool) (x:Operand) (xs:List Operand)
 | bld (zero:List AV) (parts:List (Nat×Nat×Operand))
 | ld (n:Nat) (agg:Bool) (x:Operand)
 | ldp (n:Nat) (agg:Bool) (x:Operand)
 | cbs (x:Operand)
 | bx (x:Operand)
 | al (zero:List AV)
 | st (n:Nat) (x v:Operand)
 | bls (z len:Nat) (zero:AV) (parts:List (Nat×Operand))
 | mks (z bytes:Nat) (zero:AV) (len cap:Operand)
 | app (z bytes:Nat) (s x:Operand)
 | apz (z bytes:Nat) (zero:AV) (s x:Operand)
 | cpy (z:Nat) (d s:Operand)
 | clr (z:Nat) (zero:AV) (x:Operand)
 | pan (x:Operand)
 | s3 (z:Nat) (x:Operand) (lo hi:Option Operand) (mx:Operand)
 | sle (z:Nat) (x:Operand) (lo hi:Option Operand)
 | xcl (f:FuncId) (args:List Operand)
 | apin (z bytes:Nat) (s x:Operand)
 | mvx (x:Operand)
 | agz (z bytes:Nat) (zero:AV) (s x g:Operand)
 | iab (z:Nat) (x i:Operand)
 | sap (z bytes:Nat) (s x:Operand)
 | sbl (z len:Nat) (zero:AV) (parts:List (Nat×Operand))
 | calf (f:FuncId) (args:List Operand)
 | call (f:FuncId) (args:List Operand)
 | calv (x:Operand) (args:List Operand)
 deriving Inhabited
def ik (op:BinOp) (k:IntKind) (a b:Int) (K:AV->Prop):Prop :=
 match op with
 | .add=>K (.int k (k.wrap (a+b)))
 | .sub=>K (.int k (k.wrap (a-b)))
 | .mul=>K (.int k (k.wrap (a*b)))
 | .quo=>b≠0/\K (.int k (k.wrap (a.tdiv b)))
 | .rem=>b≠0/\K (.int k (a.tmod b))
 | .and=>K (.int k (k.wrap (BitVec.ofInt k.bits a &&& BitVec.ofInt k.bits b).toNat))
 | .or=>K (.int k (k.wrap (BitVec.ofInt k.bits a ||| BitVec.ofInt k.bits b).toNat))
 | .xor=>K (.int k (k.wrap (BitVec.ofInt k.bits a ^^^ BitVec.ofInt k.bits b).toNat))
 | .andNot=>K (.int k (k.wrap (BitVec.ofInt k.bits a &&& ~~~ BitVec.ofInt k.bits b).toNat))
 | .eql=>K (.bool (a==b))
 | .neq=>K (.bool (a !=b))
 | .lss=>K (.bool (decide (a<b)))
 | .leq=>K (.bool (decide (a<=b)))
 | .gtr=>K (.bool (decide (a>b)))
 | .geq=>K (.bool (decide (a>=b)))
 | .shl=>0<=b/\K (.int k (k.wrap (a*2^(min b.toNat k.bits))))
 | .shr=>0<=b/\K (.int k (a.fdiv (2^(min b.toNat k.bits))))
def sk (op:BinOp) (a b:List UInt8) (K:AV->Prop):Prop :=
 match op with
 | .add=>(a.length+b.length:Int)<=9223372036854775807/\K (.str (a++b))
 | .eql=>K (.bool (a==b))
 | .neq=>K (.bool (!(a==b)))
 | .lss=>K (.bool (Op.bytesLess a b))
 | .leq=>K (.bool (Op.bytesLess a b||a==b))
 | .gtr=>K (.bool (!(Op.bytesLess a b||a==b)))
 | .geq=>K (.bool (!Op.bytesLess a b))
 | _=>False
def uM (op:BinOp) (x y:AV) (K:AV->Prop):Prop :=
 match x,y with
 | .int k a,.int k' b=>(k=k'∨op= .shl∨op= .shr)/\ik op k a b K
 | .str a,.str b=>sk op a b K
 | _,_=>False
def xH:AV->AV->AV->Option Bool
 | .int k _,.int k1 a,.int k2 b=>if k1=k/\k2=k then some (a==b) else none
 | .bool _,.bool a,.bool b=>some (a==b)
 | .str _,.str a,.str b=>some (a==b)
 | _,_,_=>none
def eC:List AV->List AV->List AV->Option Bool
 | [],[],[]=>some true
 | k :: ks,x :: xs,y :: ys=>match xH k x y,eC ks xs ys with
   | some a,some b=>some (a&&b)
   | _,_=>none
 | _,_,_=>none
def oW (k:Nat) (x:AV) (K:Bool->Prop):Prop :=
 match k,x with
 | 0,.nilp=>K true
 | 0,.ref _ _ _=>K false
 | 0,.ip _ _=>K false
 | 1,.aD=>K true
 | 1,.sl _ _ l=>(l=[]->K true)/\K false
 | 1,.own _ _ _ len=>(len=0->K true)/\K false
 | 2,.cD=>K true
 | 3,.nilf=>K true
 | 3,.fn _ _ _=>K false
 | _,_=>False
def aHR:Nat->AV->Bool
 | 0,.nilp=>true
 | 1,.aD=>true
 | 2,.cD=>true
 | 3,.nilf=>true
 | _,_=>false
def unK (op:UnOp) (x:AV) (K:AV->Prop):Prop :=
 match op,x with
 | .not,.bool b=>K (.bool (!b))
 | .neg,.int k a=>K (.int k (k.wrap (0-a)))
 | .xor,.int k a=>K (.int k (k.wrap (BitVec.ofInt k.bits (if k.signed then -1 else k.max) ^^^ BitVec.ofInt k.bits a).toNat))
 | _,_=>False
def dQ (x:Option AV) (dflt:Nat) (K:Nat->Prop):Prop :=
 match x with
 | none=>K dflt
 | some (.int _ i)=>0<=i/\K i.toNat
 | some _=>False
def slK (x:AV) (z:Nat) (lo hi:Option AV) (K:AV->Prop):Prop :=
 match x with
 | .sl t z' l=>z'=z/\dQ hi l.length fun h=>h<=l.length/\dQ lo 0 fun lw=>lw<=h/\K (.sl t z ((l.take h).drop lw))
 | .own id z' off len=>z'=z/\dQ hi len fun h=>h<=len/\dQ lo 0 fun lw=>lw<=h/\K (.own id z (off+lw) (h-lw))
 | .aD=>dQ hi 0 fun h=>h<=0/\dQ lo 0 fun lw=>lw<=h/\K .aD
 | _=>False
def partOf (cs:List AV) (off n:Nat) (agg:Bool):AV :=
 if agg then .agg ((cs.drop off).take n) else cs.getD off .top
def bU (cells:List AV):List (Nat×Nat×AV)->List AV
 | []=>cells
 | (off,n,v) :: r=>bU (cells.take off++v.cells++cells.drop (off+n)) r
def cA (size:Nat):List (Nat×Nat×AV)->Bool
 | []=>true
 | (off,n,v) :: r=>v.cells.length==n&&decide (off+n<=size)&&v.cells.all AV.one&&cA size r
def mmK (mx:Bool) (k:IntKind) (acc:Int):List AV->(AV->Prop)->Prop
 | [],K=>K (.int k acc)
 | .int k' b :: r,K=>k=k'/\mmK mx k (if mx then (if b>acc then b else acc) else (if b<acc then b else acc)) r K
 | _ :: _,_=>False
def bH (c:CO) (e:Operand->AV) (K:AV->Prop):Prop :=
 match c with
 | .mv x=>K (e x)
 | .pick c a b=>match e c with
   | .bool t=>K (if t then e a else e b)
   | _=>False
 | .bin op x y=>uM op (e x) (e y) K
 | .beq neg x y=>match e x,e y with
   | .bool a,.bool b=>K (.bool (if neg then !(a==b) else a==b))
   | _,_=>False
 | .seq neg ks x y=>match e x,e y with
   | .agg xs,.agg ys=>∃ b,eC ks xs ys=some b/\K (.bool (if neg then !b else b))
   | _,_=>False
 | .isn k neg x y=>aHR k (e y)=true/\oW k (e x) fun b=>K (.bool (if neg then !b else b))
 | .un op x=>unK op (e x) K
 | .cvi k x=>match e x with
   | .int _ n=>K (.int k (k.wrap n))
   | _=>False
 | .mkf fn first cap=>K (.fn fn (first.map e) (cap.map e))
 | .slc z x lo hi=>slK (e x) z (lo.map e) (hi.map e) K
 | .sls x lo hi=>match e x with
   | .str s=>dQ (hi.map e) s.length fun h=>h<=s.length/\dQ (lo.map e) 0 fun lw=>lw<=h/\K (.str ((s.take h).drop lw))
   | _=>False
 | .fad off x=>match e x with
   | .ref id i o=>K (.ref id i (o+off))
   | .ip t cs=>K (.ip t (cs.drop off))
   | _=>False
 | .fld off n agg x=>match e x with
   | .agg cs=>off+n<=cs.length/\(agg=true∨n=1)/\K (partOf cs off n agg)
   | _=>False
 | .iad z x i=>match e x,e i with
   | .sl t z' l,.int _ j=>z'=z/\0<=j/\j<l.length/\K (.ip t (l.getD j.toNat .top).cells)
   | .own id z' off len,.int _ j=>z'=z/\0<=j/\j<len/\K (.ref id (off+j.toNat) 0)
   | _,_=>False
 | .iab z x i=>match e x,e i with
   | .own id z' off len,.int _ j=>z'=z/\0<=j/\j<len/\K (.ref id 0 ((off+j.toNat)*z))
   | _,_=>False
 | .ixs x i=>match e x,e i with
   | .str s,.int _ j=>0<=j/\j<s.length/\K (.int .u8 (s.getD j.toNat 0).toNat)
   | _,_=>False
 | .ext i x=>match e x with
   | .tup vs=>i<vs.length/\K (vs.getD i .top)
   | _=>False
 | .lens x=>match e x with
   | .str s=>K (.int .i64 s.length)
   | _=>False
 | .lenl x=>match e x with
   | .sl _ _ l=>K (.int .i64 l.length)
   | .own _ _ _ len=>K (.int .i64 len)
   | .aD=>K (.int .i64 0)
   | _=>False
 | .capl x=>match e x with
   | .aD=>K (.int .i64 0)
   | .ownx _ _ _ _ c=>K (.int .i64 c)
   | _=>False
 | .ldp n agg x=>match e x with
   | .ip _ cs=>n<=cs.length/\(agg=true∨n=1)/\K (partOf cs 0 n agg)
   | _=>False
 | .mm mx x xs=>match e x with
   | .int k a=>mmK mx k a (xs.map e) K
   | _=>False
 | .bld zero parts=>cA zero.length (parts.map fun (o,n,x)=>(o,n,e x))=true/\zero.all AV.one=true/\K (.agg (bU zero (parts.map fun (o,n,x)=>(o,n,e x))))
 | _=>False
def det (c:CO) (e:Operand->AV):Bool :=
 match c with
 | .isn 1 _ x _=>match e x with
   | .sl _ _ l=>decide (0<l.length)
   | .own _ _ _ len=>decide (0<len)
   | _=>true
 | _=>true
section inv
variable {w:World} {S:Bool->Nat->Prop} {μ:Nat->Option Loc} {n:Nat} {x:Value}
theorem VR.dB {k:IntKind} {i:Int} (h:VR w S μ n x (.int k i)):x= .int k i:=by cases h;rfl
theorem VR.gS {b:Bool} (h:VR w S μ n x (.bool b)):x= .bool b:=by cases h;rfl
theorem VR.jZ {l:List UInt8} (h:VR w S μ n x (.str l)):x= .string ⟨l.toArray⟩:=by
 cases h
 rename_i s h
 subst h
 simp
theorem VR.fS (h:VR w S μ n x .aD):x= .slice none 0 0:=by cases h;rfl
theorem VR.mY {id i off:Nat} (h:VR w S μ n x (.ref id i off)):∃ L,id<n/\μ id=some L/\x= .pointer (some ⟨L.b,L.o+i*L.z+off,none⟩):=by
 cases h with
 | ref h hL=>exact ⟨_,h,hL,rfl⟩
theorem VR.aAC {t:Bool} {cs:List AV} (h:VR w S μ n x (.ip t cs)):∃ b o,∃ u:Nat->Value,x= .pointer (some ⟨b,o,none⟩)/\S t b/\(∀ a∈cs,a.ok=true) /\
 (∀ k,k<cs.length->w.cell? ⟨b,o+k,none⟩=some (u k))/\∀ k y,cs[k]?=some y->VR w S μ n (u k) y:=by
 cases h with
 | ip u hS hok hc hv=>exact ⟨_,_,u,rfl,hS,hok,hc,hv⟩
theorem VR.lR {cs:List AV} (h:VR w S μ n x (.agg cs)):∃ vs:List Value,x= .agg vs.toArray/\vs.length=cs.length/\(∀ a∈cs,a.one=true) /\
 ∀ k y,cs[k]?=some y->VR w S μ n (vs.getD k undef) y:=by
 cases h with
 | agg hl h1 hv=>exact ⟨_,rfl,hl,h1,hv⟩
theorem VR.mU {cs:List AV} (h:VR w S μ n x (.tup cs)):∃ vs:List Value,x= .tuple vs.toArray/\vs.length=cs.length /\
 ∀ k y,cs[k]?=some y->VR w S μ n (vs.getD k undef) y:=by
 cases h with
 | tup hl hv=>exact ⟨_,rfl,hl,hv⟩
theorem VR.aIx {f:Fn} {cs ds:List AV} (h:VR w S μ n x (.fn f cs ds)):∃ as bs:List Value,x= .func f as.toArray bs.toArray/\as.length=cs.length/\bs.length=ds.length /\
 (∀ k y,cs[k]?=some y->VR w S μ n (as.getD k undef) y)/\∀ k y,ds[k]?=some y->VR w S μ n (bs.getD k undef) y:=by
 cases h with
 | fn hl hk hv hu=>exact ⟨_,_,rfl,hl,hk,hv,hu⟩
theorem VR.pM {t:Bool} {z:Nat} {l:List AV} (h:VR w S μ n x (.sl t z l)):(∃ A c,x= .slice A 0 c/\l=[]) ∨
 ∃ b o c,∃ u:Nat->Value,x= .slice (some ⟨b,o,none⟩) l.length c/\l.length<=c/\S t b/\(∀ a∈l,a.el z=true) /\
   (∀ k,k<(flat l).length->w.cell? ⟨b,o+k,none⟩=some (u k))/\∀ k y,(flat l)[k]?=some y->VR w S μ n (u k) y:=by
 cases h with
 | sl0=>exact .inl ⟨_,_,rfl,rfl⟩
 | sl u hm hlen hS hel hc hv=>subst hm;exact .inr ⟨_,_,_,u,rfl,hlen,hS,hel,hc,hv⟩
theorem VR.cN {id z off len:Nat} (h:VR w S μ n x (.own id z off len)):id<n/\((∃ A,x= .slice A 0 0/\len=0/\∀ L,μ id=some L->L.n<=L.o+off*z) ∨
 ∃ L c,μ id=some L/\L.z=z/\x= .slice (some ⟨L.b,L.o+off*z,none⟩) len c/\len<=c/\L.o+(off+c)*z=L.n):=by
 cases h with
 | own0 h he=>exact ⟨h,.inl ⟨_,rfl,rfl,he⟩⟩
 | own h hL hz hlen hc=>exact ⟨h,.inr ⟨_,_,hL,hz,rfl,hlen,hc⟩⟩
theorem VR.xW {id z off len c:Nat} (h:VR w S μ n x (.ownx id z off len c)):id<n/\((∃ A,x= .slice A 0 0/\len=0/\c=0/\∀ L,μ id=some L->L.n<=L.o+off*z) ∨
 ∃ L,μ id=some L/\L.z=z/\x= .slice (some ⟨L.b,L.o+off*z,none⟩) len c/\len<=c/\L.o+(off+c)*z=L.n):=by
 cases h with
 | ownx0 h he=>exact ⟨h,.inl ⟨_,rfl,rfl,rfl,he⟩⟩
 | ownx h hL hz hlen hc=>exact ⟨h,.inr ⟨_,hL,hz,rfl,hlen,hc⟩⟩
theorem VR.one {y:AV} (h:VR w S μ n x y) (h1:y.one=true):x.oneCell'=true:=by
 cases h<;>simp_all [AV.one,Value.oneCell']
theorem VR.cells {y:AV} (h:VR w S μ n x y) (h1:y.cells.all AV.one=true):x.cells.size=y.cells.length/\(∀ v∈x.cells.toList,v.oneCell'=true) /\
 ∀ k u,y.cells[k]?=some u->VR w S μ n (x.cells.getD k undef) u:=by
 by_cases ha:∃ cs,y= .agg cs
 · obtain ⟨cs,rfl⟩:=ha
   obtain ⟨vs,rfl,hl,ho,hv⟩:=h.lR
   refine ⟨by simpa [Value.cells,AV.cells] using hl,fun v hm=>?_,fun k u hk=>by simpa [Value.cells,AV.cells] using hv k u hk⟩
   simp only [Value.cells] at hm
   obtain ⟨k,hk⟩:=List.getElem?_of_mem hm
   have hk':k<cs.length:=by rw [<- hl];exact (List.getElem?_eq_some_iff.1 hk).1
   have:=hv k cs[k] (List.getElem?_eq_getElem hk')
   rw [List.getD_eq_getElem?_getD,hk] at this
   exact this.one (ho _ (List.getElem_mem hk'))
 · have e:y.cells=[y]:=by cases y<;>simp_all [AV.cells]
   rw [e] at h1 ⊢
   simp only [List.all_cons,List.all_nil,Bool.and_true] at h1
   have h2:=h.one h1
   have e2:x.cells= #[x]:=by cases x<;>simp_all [Value.cells,Value.oneCell']
   rw [e2]
   refine ⟨rfl,by simpa using h2,fun k u hk=>?_⟩
   cases k with
   | zero=>simp at hk;subst hk;simpa using h
   | succ k=>simp at hk
end inv
def fR (P:Program) (t:TypeId):Option (List AV) :=
 match (P.info? t).bind (·.zero) with
 | some v=>if (v.cells.toList.map aAj).all AV.one then some (v.cells.toList.map aAj) else none
 | none=>none
def pA (f:TypeId->Option (List AV)):Nat->List Field->Option (List AV)
 | _,[]=>some []
 | k,fd :: fs=>if fd.offset=k/\fd.name≠ "_" then
     match f fd.type with
     | some ks=>match pA f (k+ks.length) fs with
       | some r=>some (ks++r)
       | none=>none
     | none=>none
   else none
def mH (P:Program):Nat->TypeId->Option (List AV)
 | 0,_=>none
 | d+1,t=>match P.underlying t with
   | some .bool=>some [.bool false]
   | some (.int k)=>some [.int k 0]
   | some .string=>some [.str []]
   | some (.struct fs)=>if P.stoodInHeld t then none else
      match pA (mH P d) 0 fs.toList with
      | some ks=>if ks.length=P.cellsOf t then some ks else none
      | none=>none
   | _=>none
def kJ:TypeDesc->Bool
 | .struct _| .array _ _=>true
 | _=>false
def fY (P:Program) (t:TypeId):Bool:=((P.underlying t).map kJ).getD false
def rM:TypeDesc->Option Nat
 | .pointer _=>some 0
 | .slice _=>some 1
 | .map _ _=>some 2
 | .func _ _ _=>some 3
 | _=>none
def kE (P:Program) (op:BinOp) (t:TypeId) (x y:Operand):Option CO :=
 match P.underlying t with
 | some (.int _)|some .string=>some (.bin op x y)
 | some .bool=>match op with
   | .eql=>some (.beq false x y)
   | .neq=>some (.beq true x y)
   | _=>none
 | some (.struct _)=>match mH P 40 t with
   | some ks=>if P.eqGuardType P.depth t then none else
     match op with
     | .eql=>some (.seq false ks x y)
     | .neq=>some (.seq true ks x y)
     | _=>none
   | none=>none
 | some d=>match rM d,op with
   | some k,.eql=>some (.isn k false x y)
   | some k,.neq=>some (.isn k true x y)
   | _,_=>none
 | none=>none
def jA (P:Program) (s d:TypeId) (x:Operand):Option CO :=
 match P.underlying s,P.underlying d with
 | some (.int _),some (.int k)=>some (.cvi k x)
 | _,_=>none
def eB (P:Program) (b:Builtin) (args:List Operand) (ts:List TypeId):Option CO :=
 match b,args,ts with
 | .len,[x],t :: _=>match P.underlying t with
   | some .string=>some (.lens x)
   | some (.slice _)=>some (.lenl x)
   | _=>none
 | .cap,[x],t :: _=>match P.underlying t with
   | some (.slice _)=>some (.capl x)
   | _=>none
 | .min,x :: xs,_=>some (.mm false x xs)
 | .max,x :: xs,_=>some (.mm true x xs)
 | _,_,_=>none
def rU (P:Program) (t:TypeId) (f:Nat):Option Field :=
 match P.underlying t with
 | some (.struct fs)=>fs[f]?
 | _=>none
def fV (P:Program) (t:TypeId) (x:Operand) (f:Nat):Option CO :=
 match rU P t f with
 | some fd=>if (P.info? fd.type).isSome&&decide (P.cellsOf fd.type≠0) then some (.fad fd.offset x) else none
 | none=>none
def kD (P:Program) (t:TypeId) (x:Operand) (f:Nat):Option CO :=
 match rU P t f with
 | some fd=>if (P.info? fd.type).isSome&&(P.underlying fd.type).isSome then some (.fld fd.offset (P.cellsOf fd.type) (fY P fd.type) x) else none
 | none=>none
def fW (P:Program) (t:TypeId) (parts:List (Nat×Operand)):Option CO :=
 match fR P t,P.underlying t with
 | some z,some (.struct fs) =>
   if (fs.toList.all fun f=>(P.info? f.type).isSome)&&(parts.all fun p=>decide (p.1<fs.size)) then
    some (.bld z (parts.map fun p=>((fs.getD p.1 ⟨ "",0,0,false, "", "",0⟩).offset,P.cellsOf (fs.getD p.1 ⟨ "",0,0,false, "", "",0⟩).type,p.2))) else none
 | some z,some (.array _ el)=>if (P.info? el).isSome then some (.bld z (parts.map fun p=>(p.1*P.cellsOf el,P.cellsOf el,p.2))) else none
 | _,_=>none
def cJ (P:Program) (o:Oper):Option CO :=
 match o.op with
 | .move x| .assign x=>some (.mv x)
 | .pick c a b=>some (.pick c a b)
 | .binOp op t x y _=>kE P op t x y
 | .unOp op _ x=>some (.un op x)
 | .convert s d x=>jA P s d x
 | .makeFunc fn first cap=>some (.mkf fn first.toList cap.toList)
 | .slice t x lo hi none=>match P.underlying t with
   | some .string=>some (.sls x lo hi)
   | some (.slice e)=>if (P.info? e).isSome then some (.slc (P.cellsOf e) x lo hi) else none
   | _=>none
 | .fieldAddr t x f=>fV P t x f
 | .field t x f=>kD P t x f
 | .indexAddr t x i=>match P.underlying t with
   | some (.slice e)=>if (P.info? e).isSome then some (.iad (P.cellsOf e) x i) else none
   | _=>none
 | .index t x i=>match P.underlying t with
   | some .string=>some (.ixs x i)
   | _=>none
 | .extract x i=>some (.ext i x)
 | .build t parts=>fW P t parts.toList
 | .call { callee:=.builtin b,args,argTypes }=>eB P b args.toList argTypes.toList
 | _=>none
section sound
variable {P:Program} {E:Env} {n:Nat} {a:Act} {e:Operand->AV}
theorem fN {l:List AV} {z:Nat} (hel:∀ a∈l,a.el z=true) {i j:Nat} (hi:i<l.length) (hj:j<z) :
 (flat l)[i*z+j]?=(l.getD i .top).cells[j]?:=by
 induction l generalizing i with
 | nil=>simp at hi
 | cons a l ih =>
   have ha:a.cells.length=z:=by
    have:=hel a List.mem_cons_self
    simp only [AV.el,Bool.and_eq_true,beq_iff_eq] at this
    exact this.1
   cases i with
   | zero =>
     simp only [flat,List.flatMap_cons,Nat.zero_mul,Nat.zero_add,List.getD_cons_zero]
     rw [List.getElem?_append_left (by omega)]
   | succ i =>
     simp only [flat,List.flatMap_cons,List.getD_cons_succ]
     rw [List.getElem?_append_right (by rw [ha,Nat.succ_mul];omega)]
     have e:(i+1)*z+j-a.cells.length=i*z+j:=by rw [ha,Nat.succ_mul];omega
     rw [e]
     exact ih (fun x hx=>hel x (List.mem_cons_of_mem _ hx)) (by simpa using hi)
theorem bJ {l:List AV} {z:Nat} (hel:∀ a∈l,a.el z=true):(flat l).length=l.length*z:=by
 induction l with
 | nil=>simp [flat]
 | cons a l ih =>
   have ha:=hel a List.mem_cons_self
   simp only [AV.el,Bool.and_eq_true,beq_iff_eq] at ha
   have:=ih (fun x hx=>hel x (List.mem_cons_of_mem _ hx))
   simp only [flat,List.flatMap_cons,List.length_append,List.length_cons] at this ⊢
   rw [this,ha.1,Nat.succ_mul]
   omega
theorem iN (l m:List AV):flat (l++m)=flat l++flat m:=by simp [flat]
theorem dD {a:AV} {z:Nat} (h:a.el z=true):a.cells.length=z/\∀ y∈a.cells,y.ok=true:=by
 simp only [AV.el,Bool.and_eq_true,beq_iff_eq,List.all_eq_true] at h
 exact h
end sound
section sound
variable {P:Program} {E:Env} {n:Nat} {a:Act} {e:Operand->AV} {K:AV->Prop}
def LS (P:Program) (E:Env) (n:Nat) (a:Act) (o:Oper) (K:AV->Prop):Prop :=
 ∃ v y,(execOp a.eval o).run P E.w= .ok (.value v) E.w/\E.VR n v y/\K y
theorem LS.of {o:Oper} {s:Sem Value} {v:Value} {y:AV} (hs:execOp a.eval o=(do pure (.value (<- s)))) (hr:s.run P E.w= .ok v E.w) (hv:E.VR n v y) (hk:K y):LS P E n a o K :=
 ⟨v,y,by rw [hs];simp [hr],hv,hk⟩
theorem iH (op:BinOp) (k:IntKind) (x y:Int) (w:World) (hop:op= .and∨op= .or∨op= .xor∨op= .andNot) :
 (Op.intBits op k x y).run P w= .ok (.int k (k.wrap (match op with
   | .and=>BitVec.ofInt k.bits x &&& BitVec.ofInt k.bits y
   | .or=>BitVec.ofInt k.bits x ||| BitVec.ofInt k.bits y
   | .xor=>BitVec.ofInt k.bits x ^^^ BitVec.ofInt k.bits y
   | _=>BitVec.ofInt k.bits x &&& ~~~ BitVec.ofInt k.bits y).toNat)) w:=by
 rcases hop with rfl|rfl|rfl|rfl<;>simp [Op.intBits]
theorem toList_mk (l:List UInt8):(⟨l.toArray⟩:ByteArray).toList=l:=by rw [ByteArray.toList_eq]
theorem iW (l:List UInt8):(⟨l.toArray⟩:ByteArray).size=l.length:=by simp [ByteArray.size]
theorem aK2 {op:BinOp} {t:TypeId} {x y:AV} {v u:Value} (hx:E.VR n v x) (hy:E.VR n u y) (h:uM op x y K) :
 ∃ r z,(binOp op t v u).run P E.w= .ok r E.w/\E.VR n r z/\K z:=by
 unfold uM at h
 split at h
 · rename_i k a' k' b'
   obtain ⟨hk,h⟩:=h
   have e1:=hx.dB
   have e2:=hy.dB
   subst e1 e2
   unfold ik at h
   cases op<;>simp only [reduceCtorEq,or_false,or_true,true_or,false_or] at hk<;>(try subst hk)<;>simp only [binOp,ne_eq,not_true_eq_false,if_false]
   case shl =>
    refine ⟨_,_,?_,.int,h.2⟩
    simp [Op.shift,show ¬ b'<0 from by omega]
   case shr =>
    refine ⟨_,_,?_,.int,h.2⟩
    simp [Op.shift,show ¬ b'<0 from by omega]
   case quo=>exact ⟨_,_,by simp [Op.intDiv,h.1],.int,h.2⟩
   case rem=>exact ⟨_,_,by simp [Op.intDiv,h.1],.int,h.2⟩
   case and=>exact ⟨_,_,iH .and _ _ _ _ (by simp),.int,h⟩
   case or=>exact ⟨_,_,iH .or _ _ _ _ (by simp),.int,h⟩
   case xor=>exact ⟨_,_,iH .xor _ _ _ _ (by simp),.int,h⟩
   case andNot=>exact ⟨_,_,iH .andNot _ _ _ _ (by simp),.int,h⟩
   all_goals first
    | exact ⟨_,_,by simp only [Op.intArith];rfl,.int,h⟩
    | exact ⟨_,_,by simp only [Op.intCmp];rfl,.bool,h⟩
 · rename_i s t
   have e1:=hx.jZ
   have e2:=hy.jZ
   subst e1 e2
   unfold sk at h
   cases op<;>simp only at h
   case add =>
    refine ⟨.string (⟨s.toArray⟩++⟨t.toArray⟩),.str (s++t),?_,.str (by simp [ByteArray.data_append]),h.2⟩
    have hm:¬ (((⟨s.toArray⟩:ByteArray).size+(⟨t.toArray⟩:ByteArray).size:Nat):Int)>IntKind.i64.max:=by
     rw [iW,iW,show IntKind.i64.max=9223372036854775807 from rfl]
     push_cast
     omega
    simp only [binOp,Op.stringOp,hm,if_false,Sem.run_pure]
   all_goals exact ⟨_,_,by simp only [binOp,Op.stringOp,toList_mk];rfl,.bool,h⟩
 · exact h.elim
theorem iY {x:Option AV} {v:Option Value} {d cap:Nat} {code:BoundsCode} {K:Nat->Prop} (hv:match x,v with
 | none,none=>True
 | some y,some u=>E.VR n u y
 | _,_=>False) (h:dQ x d K):∃ r,K r/\match v with
 | none=>r=d
 | some u=>r<=cap->(Instr.sliceBound u cap code).run P E.w= .ok r E.w:=by
 cases x with
 | none =>
   cases v with
   | none=>exact ⟨d,h,rfl⟩
   | some u=>exact hv.elim
 | some y =>
   cases v with
   | none=>exact hv.elim
   | some u =>
     cases y<;>simp only [dQ] at h
     rename_i k i
     have e:=VR.dB hv
     subst e
     refine ⟨i.toNat,h.2,fun hr=>?_⟩
     have:i<=cap:=by omega
     simp [Instr.sliceBound,asIntOf,h.1,this]
theorem VR.getD {S:Bool->Nat->Prop} {w:World} {μ:Nat->Option Loc} {cs:List AV} {u:Nat->Value} (hv:∀ k y,cs[k]?=some y->VR w S μ n (u k) y) {k:Nat} (hk:k<cs.length) :
 VR w S μ n (u k) (cs.getD k .top):=hv k _ (by rw [List.getD_eq_getElem?_getD,List.getElem?_eq_getElem hk];rfl)
theorem o9 {α:Type} {l:List α} {m k:Nat} {x:α} (h:(l.drop m)[k]?=some x):l[m+k]?=some x:=by rwa [List.getElem?_drop] at h
theorem sF {α:Type} {l:List α} {m k:Nat} {x:α} (h:(l.take m)[k]?=some x):l[k]?=some x/\k<m:=by
 rw [List.getElem?_take] at h
 split at h
 · exact ⟨h,by assumption⟩
 · cases h
theorem mL {l:List AV} {z:Nat} (hel:∀ a∈l,a.el z=true) (lw h:Nat) (k:Nat) (y:AV) (hh:h<=l.length)
 (hk:(flat ((l.take h).drop lw))[k]?=some y):(flat l)[lw*z+k]?=some y:=by
 have hel2:∀ a∈(l.take h).drop lw,a.el z=true:=fun a ha=>hel a (List.mem_of_mem_take (List.mem_of_mem_drop ha))
 have hlen:=bJ hel2
 have hk1:k<(flat ((l.take h).drop lw)).length:=(List.getElem?_eq_some_iff.1 hk).1
 rw [hlen] at hk1
 have hz:0<z:=by rcases Nat.eq_zero_or_pos z with h0|h0;· subst h0;simp at hk1
                 · exact h0
 have hi:k / z<((l.take h).drop lw).length:=by rw [Nat.div_lt_iff_lt_mul hz];exact hk1
 have hj:k % z<z:=Nat.mod_lt _ hz
 have e:k=k / z*z+k % z:=by rw [Nat.mul_comm];exact (Nat.div_add_mod k z).symm
 generalize k / z=q at *
 generalize k % z=r at *
 subst e
 rw [fN hel2 hi hj] at hk
 have hq:lw+q<h:=by simp only [List.length_drop,List.length_take] at hi;omega
 have hi2:lw+q<l.length:=by omega
 have e2:lw*z+(q*z+r)=(lw+q)*z+r:=by rw [Nat.add_mul];omega
 rw [e2,fN hel hi2 hj]
 have e3:l.getD (lw+q) AV.top=((l.take h).drop lw).getD q .top:=by
  rw [List.getD_eq_getElem?_getD,List.getD_eq_getElem?_getD,List.getElem?_drop,List.getElem?_take]
  rw [if_pos hq]
 rw [e3]
 exact hk
theorem aBw {t:TypeId} {el:TypeId} {z:Nat} {x:AV} {v:Value} {lo hi:Option AV} {vl vh:Option Value} (ht:P.underlying t=some (.slice el)) (hi0:(P.info? el).isSome=true) (hz:P.cellsOf el=z)
 (hx:E.VR n v x) (hl:match lo,vl with|none,none=>True|some y,some u=>E.VR n u y|_,_=>False)
 (hh:match hi,vh with|none,none=>True|some y,some u=>E.VR n u y|_,_=>False) (h:slK x z lo hi K) :
 ∃ r y,(Instr.sliceAt t v vl vh none).run P E.w= .ok r E.w/\E.VR n r y/\K y:=by
 obtain ⟨ii,hii⟩:=Option.isSome_iff_exists.1 hi0
 have key:∀ (A:Option Addr) (len cap:Nat) (Kl:Nat->Nat->Prop),len<=cap ->
  (dQ hi len fun h=>h<=len/\dQ lo 0 fun lw=>lw<=h/\Kl lw h) ->
  ∃ lw h,lw<=h/\h<=len/\Kl lw h/\(Instr.sliceAt t (.slice A len cap) vl vh none).run P E.w= .ok (.slice (if cap=lw then A else A.map (·.add (lw*z))) (h-lw) (cap-lw)) E.w:=by
  intro A len cap Kl hlc hb
  obtain ⟨hb1,⟨h1,h2⟩,h3⟩:=iY (P:=P) (cap:=cap) (code:=.sliceAcap) hh hb
  obtain ⟨lb,⟨h4,h5⟩,h6⟩:=iY (P:=P) (cap:=hb1) (code:=.sliceB) hl h2
  refine ⟨lb,hb1,h4,h1,h5,?_⟩
  simp only [Instr.sliceAt,Sem.run_bind,run_underlying ht,Result.andThen_ok,Instr.slice,Instr.sliceBounds,Sem.run_pure]
  have hsz:(sizeOf el).run P E.w= .ok z E.w:=by rw [run_sizeOf _ hii,hz]
  cases vh with
  | none =>
    simp only at h3
    subst h3
    cases vl with
    | none=>simp only at h6;subst h6;simp [hsz]
    | some u=>simp [h6 h4,hsz]
  | some u' =>
    cases vl with
    | none=>simp only at h6;subst h6;simp [h3 (by omega),hsz]
    | some u=>simp [h3 (by omega),h6 h4,hsz]
 unfold slK at h
 split at h
 · rename_i tt z' l
   obtain ⟨rfl,h⟩:=h
   rcases hx.pM with ⟨A,c,rfl,rfl⟩|⟨b,o,c,u,rfl,hlen,hS,hel,hc,hv⟩
   · obtain ⟨lw,hg,h1,h2,hk,hr⟩:=key A 0 c (fun lw h=>K (.sl tt z' ((([]:List AV).take h).drop lw))) (by omega) (by simpa using h)
     refine ⟨_,_,hr,?_,hk⟩
     have e0:hg=0:=by omega
     have e1:lw=0:=by omega
     subst e0 e1
     exact .sl0
   · obtain ⟨lw,hg,h1,h2,hk,hr⟩:=key (some ⟨b,o,none⟩) l.length c (fun lw h=>K (.sl tt z' ((l.take h).drop lw))) hlen h
     refine ⟨_,_,hr,?_,hk⟩
     by_cases hcap:c=lw
     · rw [if_pos hcap]
       have e0:hg-lw=0:=by omega
       have e1:(l.take hg).drop lw=[]:=by apply List.drop_eq_nil_of_le;simp;omega
       rw [e0,e1]
       exact .sl0
     · rw [if_neg hcap]
       have hel2:∀ a∈(l.take hg).drop lw,a.el z'=true:=fun a ha=>hel a (List.mem_of_mem_take (List.mem_of_mem_drop ha))
       have ea:(Addr.add ⟨b,o,none⟩ (lw*z'))=⟨b,o+lw*z',none⟩:=by unfold Addr.add;split<;>simp_all
       simp only [Option.map_some,ea]
       refine .sl (z:=z') (fun k=>u (lw*z'+k)) (by simp;omega) (by simp;omega) hS hel2 (fun k hk'=>?_) (fun k y hk'=>?_)
       · have h3:=bJ hel2
         rw [h3] at hk'
         have h4:=bJ hel
         have h5:lw*z'+k<(flat l).length:=by
          rw [h4]
          simp only [List.length_drop,List.length_take] at hk'
          have e6:(hg-lw)*z'+lw*z'=hg*z':=by rw [<- Nat.add_mul];congr 1;omega
          have e7:min hg l.length-lw=hg-lw:=by omega
          rw [e7] at hk'
          have e8:hg*z'<=l.length*z':=Nat.mul_le_mul_right _ h2
          omega
         have:=hc _ h5
         rw [<- this]
         congr 2
         omega
       · exact hv _ _ (mL hel lw hg k y h2 hk')
 · rename_i id z' off len
   obtain ⟨rfl,h⟩:=h
   obtain ⟨hid,hx⟩:=hx.cN
   rcases hx with ⟨A,rfl,rfl,he0⟩|⟨L,c,hL,hLz,rfl,hlen,hcap⟩
   · obtain ⟨lw,hg,h1,h2,hk,hr⟩:=key A 0 0 (fun lw h=>K (.own id z' (off+lw) (h-lw))) (by omega) h
     refine ⟨_,_,hr,?_,hk⟩
     have e0:hg=0:=by omega
     have e1:lw=0:=by omega
     subst e0 e1
     exact .own0 hid (by simpa using he0)
   · obtain ⟨lw,hg,h1,h2,hk,hr⟩:=key (some ⟨L.b,L.o+off*z',none⟩) len c (fun lw h=>K (.own id z' (off+lw) (h-lw))) hlen h
     refine ⟨_,_,hr,?_,hk⟩
     by_cases hc2:c=lw
     · rw [if_pos hc2]
       have e0:hg-lw=0:=by omega
       have e1:c-lw=0:=by omega
       rw [e0,e1]
       refine .own0 hid fun L' hL'=>?_
       rw [hL] at hL'
       cases hL'
       rw [<- hc2,hcap]
       exact Nat.le_refl _
     · rw [if_neg hc2]
       have ea:(Addr.add ⟨L.b,L.o+off*z',none⟩ (lw*z'))=⟨L.b,L.o+(off+lw)*z',none⟩:=by
        have:L.o+off*z'+lw*z'=L.o+(off+lw)*z':=by rw [Nat.add_mul];omega
        unfold Addr.add
        split
        · rename_i h0;rw [<- this,h0];simp
        · rw [<- this]
       simp only [Option.map_some,ea]
       refine .own hid hL hLz (by omega) ?_
       have e9:off+lw+(c-lw)=off+c:=by omega
       rw [e9]
       exact hcap
 · have e1:=hx.fS
   subst e1
   obtain ⟨lw,hg,h1,h2,hk,hr⟩:=key none 0 0 (fun _ _=>K .aD) (by omega) h
   refine ⟨_,_,hr,?_,hk⟩
   have e0:hg=0:=by omega
   have e1:lw=0:=by omega
   subst e0 e1
   exact .aD
 · exact h.elim
end sound
section sound
variable {P:Program} {E:Env} {n:Nat} {a:Act} {e:Operand->AV} {K:AV->Prop}
theorem vT (he:∀ x,E.VR n (a.eval x) (e x)) (lo:Option Operand):match lo.map e,lo.map a.eval with
 | none,none=>True
 | some y,some u=>E.VR n u y
 | _,_=>False:=by
 cases lo with
 | none=>trivial
 | some x=>exact he x
theorem aRt {o:Oper} {t:TypeId} {x:Operand} {f:Nat} {c:CO} (ho:o.op= .fieldAddr t x f) (hc:fV P t x f=some c)
 (he:∀ x,E.VR n (a.eval x) (e x)) (h:bH c e K):LS P E n a o K:=by
 unfold fV rU at hc
 split at hc
 · rename_i fd hfd
   split at hfd
   · rename_i fs hfs
     split at hc
     · rename_i hcond
       simp only [Bool.and_eq_true,decide_eq_true_eq] at hcond
       obtain ⟨hi,h0⟩:=hcond
       obtain ⟨ii,hii⟩:=Option.isSome_iff_exists.1 hi
       cases hc
       have key:∀ b o',(Instr.fieldAt t (.pointer (some ⟨b,o',none⟩)) f).run P E.w= .ok (.pointer (some ⟨b,o'+fd.offset,none⟩)) E.w:=by
        intro b o'
        have ea:(Addr.add ⟨b,o',none⟩ fd.offset)=⟨b,o'+fd.offset,none⟩:=by unfold Addr.add;split<;>simp_all
        simp [Instr.fieldAt,run_underlying hfs,hfd,Instr.sureAddr,fieldPlace,run_sizeOf _ hii,h0,ea]
       simp only [bH] at h
       have hs:execOp a.eval o=(do pure (.value (<- Instr.fieldAt t (a.eval x) f))):=by simp only [execOp,ho]
       have hx:=he x
       split at h
       · rename_i id i off heq
         rw [heq] at hx
         obtain ⟨L,hid,hL,hv⟩:=hx.mY
         rw [hv] at hs
         exact .of hs (key _ _) (by rw [Nat.add_assoc];exact .ref hid hL) h
       · rename_i tt cs heq
         rw [heq] at hx
         obtain ⟨b,o',u,hv,hS,hok,hcc,hvv⟩:=hx.aAC
         rw [hv] at hs
         refine .of hs (key _ _) (.ip (fun k=>u (fd.offset+k)) hS (fun y hy=>hok y (List.mem_of_mem_drop hy)) (fun k hk=>?_) (fun k y hk=>hvv _ _ (o9 hk))) h
         rw [Nat.add_assoc]
         exact hcc _ (by simp only [List.length_drop] at hk;omega)
       · exact h.elim
     · cases hc
   · cases hfd
 · cases hc
theorem xJ {t:TypeId} {d:TypeDesc} {i:TypeInfo} (hd:P.underlying t=some d) (hi:P.info? t=some i) (vs:List Value) (off:Nat)
 (hlen:fY P t=false->off<vs.length) (w:World) :
 (part t vs.toArray off).run P w= .ok (if fY P t then .agg ((vs.drop off).take (P.cellsOf t)).toArray else vs.getD off undef) w:=by
 have hag:fY P t=kJ d:=by simp [fY,hd]
 rw [hag] at hlen ⊢
 have hpl:kJ d=false->(part t vs.toArray off).run P w= .ok (vs.getD off undef) w:=by
  intro h0
  have e1:vs.toArray[off]?=some (vs.getD off undef):=by simp [List.getD_eq_getElem?_getD,List.getElem?_eq_getElem (hlen h0)]
  unfold part isAgg
  simp only [Sem.run_bind,run_underlying hd,Result.andThen_ok]
  cases d<;>first|(simp only [kJ,reduceCtorEq] at h0;done)|(simp only [Sem.run_pure,Result.andThen_ok,Bool.false_eq_true,if_false,e1])
 have hpa:kJ d=true->(part t vs.toArray off).run P w= .ok (.agg ((vs.drop off).take (P.cellsOf t)).toArray) w:=by
  intro h0
  have e2:(vs.toArray.extract off (off+P.cellsOf t))=((vs.drop off).take (P.cellsOf t)).toArray:=by
   simp [List.extract_toArray,List.drop_take]
  unfold part isAgg
  simp only [Sem.run_bind,run_underlying hd,Result.andThen_ok]
  cases d<;>first|(simp only [kJ,Bool.false_eq_true] at h0;done)|(simp only [Sem.run_pure,Result.andThen_ok,if_true,Sem.run_bind,run_sizeOf _ hi,e2])
 cases h:kJ d
 · rw [hpl h];rfl
 · rw [hpa h];rfl
theorem aKE {vs:List Value} {cs:List AV} (hl:vs.length=cs.length) (h1:∀ a∈cs,a.one=true) (hv:∀ k y,cs[k]?=some y->E.VR n (vs.getD k undef) y) {off m:Nat} {ag:Bool}
 (hoff:off+m<=cs.length) (hm:ag=true∨m=1) :
 E.VR n (if ag then .agg ((vs.drop off).take m).toArray else vs.getD off undef) (partOf cs off m ag):=by
 unfold partOf
 cases ag
 · simp only [Bool.false_eq_true,if_false,false_or] at hm ⊢
   subst hm
   exact hv off _ (by rw [List.getD_eq_getElem?_getD,List.getElem?_eq_getElem (by omega)];rfl)
 · simp only [if_true]
   refine .agg (by simp;omega) (fun y hy=>h1 y (List.mem_of_mem_drop (List.mem_of_mem_take hy))) (fun k y hk=>?_)
   obtain ⟨h2,h3⟩:=sF hk
   have h4:=o9 h2
   have:=hv _ _ h4
   rw [List.getD_eq_getElem?_getD,List.getElem?_take,if_pos h3,List.getElem?_drop,<- List.getD_eq_getElem?_getD]
   exact this
theorem aRs {o:Oper} {t:TypeId} {x:Operand} {f:Nat} {c:CO} (ho:o.op= .field t x f) (hc:kD P t x f=some c)
 (he:∀ x,E.VR n (a.eval x) (e x)) (h:bH c e K):LS P E n a o K:=by
 unfold kD rU at hc
 split at hc
 · rename_i fd hfd
   split at hfd
   · rename_i fs hfs
     split at hc
     · rename_i hcond
       simp only [Bool.and_eq_true] at hcond
       obtain ⟨hi,hu⟩:=hcond
       obtain ⟨ii,hii⟩:=Option.isSome_iff_exists.1 hi
       obtain ⟨d,hd⟩:=Option.isSome_iff_exists.1 hu
       cases hc
       simp only [bH] at h
       have hs:execOp a.eval o=(do pure (.value (<- Instr.field t (a.eval x) f))):=by simp only [execOp,ho]
       have hx:=he x
       split at h
       · rename_i cs heq
         rw [heq] at hx
         obtain ⟨vs,hv,hl,h1,hvv⟩:=hx.lR
         obtain ⟨h2,h3,hk⟩:=h
         rw [hv] at hs
         refine .of hs ?_ (aKE hl h1 hvv h2 h3) hk
         simp only [Instr.field,Sem.run_bind,run_underlying hfs,Result.andThen_ok,hfd,asAgg,Sem.run_pure]
         exact xJ hd hii vs _ (fun hb=>by simp [hb] at h3;omega) _
       · exact h.elim
     · cases hc
   · cases hfd
 · cases hc
theorem iP (b o k:Nat):Addr.add ⟨b,o,none⟩ k=⟨b,o+k,none⟩:=by unfold Addr.add;split<;>simp_all
theorem aRq {o:Oper} {t el:TypeId} {x i:Operand} (ho:o.op= .indexAddr t x i) (ht:P.underlying t=some (.slice el)) (hi0:(P.info? el).isSome=true)
 (he:∀ x,E.VR n (a.eval x) (e x)) (h:bH (.iad (P.cellsOf el) x i) e K):LS P E n a o K:=by
 obtain ⟨ii,hii⟩:=Option.isSome_iff_exists.1 hi0
 have hs:execOp a.eval o=(do pure (.value (<- Instr.indexAt t (a.eval x) (a.eval i)))):=by simp only [execOp,ho]
 have hx:=he x
 have hi:=he i
 simp only [bH] at h
 split at h
 · rename_i tt z' l k j hex hei
   rw [hex] at hx
   rw [hei] at hi
   obtain ⟨rfl,h0,h1,hk⟩:=h
   have e1:=hi.dB
   rw [e1] at hs
   rcases hx.pM with ⟨A,c,hv,rfl⟩|⟨b,o',c,u,hv,hlen,hS,hel,hc,hvv⟩
   · simp at h1;omega
   · rw [hv] at hs
     have hj:j.toNat<l.length:=by omega
     refine .of hs (v:=.pointer (some ⟨b,o'+j.toNat*P.cellsOf el,none⟩)) ?_ ?_ hk
     · simp [Instr.indexAt,asIntOf,run_underlying ht,h0,h1,run_sizeOf _ hii,iP]
     · have hm:l.getD j.toNat .top∈l:=by rw [List.getD_eq_getElem?_getD,List.getElem?_eq_getElem hj];exact List.getElem_mem hj
       obtain ⟨h2,h3⟩:=dD (hel _ hm)
       refine .ip (fun k=>u (j.toNat*P.cellsOf el+k)) hS h3 (fun k hk'=>?_) (fun k y hk'=>?_)
       · rw [Nat.add_assoc]
         refine hc _ ?_
         rw [bJ hel]
         have:(j.toNat+1)*P.cellsOf el<=l.length*P.cellsOf el:=Nat.mul_le_mul_right _ hj
         rw [Nat.add_mul] at this
         omega
       · refine hvv _ _ ?_
         rw [fN hel hj (by have:=(List.getElem?_eq_some_iff.1 hk').1;omega)]
         exact hk'
 · rename_i id z' off len k j hex hei
   rw [hex] at hx
   rw [hei] at hi
   obtain ⟨rfl,h0,h1,hk⟩:=h
   have e1:=hi.dB
   rw [e1] at hs
   obtain ⟨hid,hx⟩:=hx.cN
   rcases hx with ⟨A,hv,rfl,he0⟩|⟨L,c,hL,hLz,hv,hlen,hcap⟩
   · omega
   · rw [hv] at hs
     refine .of hs (v:=.pointer (some ⟨L.b,L.o+off*P.cellsOf el+j.toNat*P.cellsOf el,none⟩)) ?_ ?_ hk
     · simp [Instr.indexAt,asIntOf,run_underlying ht,h0,h1,run_sizeOf _ hii,iP]
     · have:E.VR n (.pointer (some ⟨L.b,L.o+(off+j.toNat)*L.z+0,none⟩)) (.ref id (off+j.toNat) 0):=.ref hid hL
       rw [hLz,Nat.add_mul,Nat.add_zero,<- Nat.add_assoc] at this
       exact this
 · exact h.elim
theorem aRp {o:Oper} {t:TypeId} {x i:Operand} (ho:o.op= .index t x i) (ht:P.underlying t=some .string)
 (he:∀ x,E.VR n (a.eval x) (e x)) (h:bH (.ixs x i) e K):LS P E n a o K:=by
 have hs:execOp a.eval o=(do pure (.value (<- Instr.index t (a.eval x) (a.eval i)))):=by simp only [execOp,ho]
 have hx:=he x
 have hi:=he i
 simp only [bH] at h
 split at h
 · rename_i s k j hex hei
   rw [hex] at hx
   rw [hei] at hi
   obtain ⟨h0,h1,hk⟩:=h
   rw [hi.dB,hx.jZ] at hs
   refine .of hs (v:=.int .u8 (s.getD j.toNat 0).toNat) ?_ .int hk
   have hj:j.toNat<s.length:=by omega
   have e2:(⟨s.toArray⟩:ByteArray)[j.toNat]?=some (s.getD j.toNat 0):=by
    have hsz:j.toNat<(⟨s.toArray⟩:ByteArray).size:=by rw [iW];exact hj
    rw [getElem?_pos (⟨s.toArray⟩:ByteArray) j.toNat hsz,List.getD_eq_getElem?_getD,List.getElem?_eq_getElem hj]
    rfl
   simp [Instr.index,asIntOf,run_underlying ht,h0,e2]
 · exact h.elim
theorem oH (k:IntKind) (w:World):∀ (xs:List AV) (vs:List Value) (acc:Int) (K:AV->Prop),vs.length=xs.length->(∀ j y,xs[j]?=some y->E.VR n (vs.getD j undef) y) ->
 mmK false k acc xs K->∃ r,(vs.foldlM Builtin.min2 (.int k acc)).run P w= .ok (.int k r) w/\K (.int k r)
 | [],vs,acc,K,hl,_,h=>by
   have:vs=[]:=by simpa using hl
   subst this
   exact ⟨acc,rfl,h⟩
 | x :: xs,[],acc,K,hl,_,h=>by simp at hl
 | x :: xs,v :: vs,acc,K,hl,hv,h=>by
   have h0:=hv 0 x (by simp)
   simp only [List.getD_cons_zero] at h0
   cases x<;>simp only [mmK] at h
   obtain ⟨rfl,h⟩:=h
   have e1:=h0.dB
   subst e1
   obtain ⟨r,h1,h2⟩:=oH k w xs vs _ K (by simpa using hl) (fun j y hj=>by simpa using hv (j+1) y (by simpa using hj)) h
   refine ⟨r,?_,h2⟩
   simp only [List.foldlM_cons,Builtin.min2,Sem.run_bind,Sem.run_pure,Result.andThen_ok]
   simpa using h1
theorem oI (k:IntKind) (w:World):∀ (xs:List AV) (vs:List Value) (acc:Int) (K:AV->Prop),vs.length=xs.length->(∀ j y,xs[j]?=some y->E.VR n (vs.getD j undef) y) ->
 mmK true k acc xs K->∃ r,(vs.foldlM Builtin.max2 (.int k acc)).run P w= .ok (.int k r) w/\K (.int k r)
 | [],vs,acc,K,hl,_,h=>by
   have:vs=[]:=by simpa using hl
   subst this
   exact ⟨acc,rfl,h⟩
 | x :: xs,[],acc,K,hl,_,h=>by simp at hl
 | x :: xs,v :: vs,acc,K,hl,hv,h=>by
   have h0:=hv 0 x (by simp)
   simp only [List.getD_cons_zero] at h0
   cases x<;>simp only [mmK] at h
   obtain ⟨rfl,h⟩:=h
   have e1:=h0.dB
   subst e1
   obtain ⟨r,h1,h2⟩:=oI k w xs vs _ K (by simpa using hl) (fun j y hj=>by simpa using hv (j+1) y (by simpa using hj)) h
   refine ⟨r,?_,h2⟩
   simp only [List.foldlM_cons,Builtin.max2,Sem.run_bind,Sem.run_pure,Result.andThen_ok]
   simpa using h1
theorem aAr {o:Oper} {b:Builtin} {args:Array Operand} {ts:Array TypeId} {c:CO} (ho:o.op= .call { callee:=.builtin b,args:=args,argTypes:=ts })
 (hc:eB P b args.toList ts.toList=some c) (he:∀ x,E.VR n (a.eval x) (e x)) (h:bH c e K):LS P E n a o K:=by
 have hx:∀ s:Sem Value,(execOp a.eval o=(do let v <- s;pure (.value v)))->∀ {v:Value} {y:AV},s.run P E.w= .ok v E.w->E.VR n v y->K y->LS P E n a o K:=fun s hs v y hr hv hk=>.of hs hr hv hk
 obtain ⟨args⟩:=args
 obtain ⟨ts⟩:=ts
 simp only at hc
 have hb:∀ s,builtin b ts.toArray o.type (args.toArray.map fun| .const _=>true|_=>false) (args.toArray.map a.eval)=(do let v <- s;pure (.value v)) ->
  execOp a.eval o=(do let v <- s;pure (.value v)):=by
  intro s hs
  simp only [execOp,ho,resolve,invoke,pure_bind]
  exact hs
 unfold eB at hc
 split at hc
 · rename_i x t rest
   have hev:=he x
   split at hc
   · rename_i ht
     cases hc
     simp only [bH] at h
     split at h
     · rename_i s heq
       rw [heq] at hev
       refine hx _ (hb _ rfl) (v:=.int .i64 s.length) ?_ .int h
       simp [Builtin.len_,run_underlying ht,hev.jZ,goInt,iW]
     · exact h.elim
   · rename_i el ht
     cases hc
     simp only [bH] at h
     split at h
     · rename_i tt z l heq
       rw [heq] at hev
       refine hx _ (hb _ rfl) (v:=.int .i64 l.length) ?_ .int h
       rcases hev.pM with ⟨A,c,hv,rfl⟩|⟨b,o',c,u,hv,hlen,hS,hel,hc,hvv⟩<;>simp [Builtin.len_,run_underlying ht,hv,goInt]
     · rename_i id z off len heq
       rw [heq] at hev
       refine hx _ (hb _ rfl) (v:=.int .i64 len) ?_ .int h
       rcases hev.cN with ⟨_,⟨A,hv,rfl,he0⟩|⟨L,c,hL,hLz,hv,hlen,hcap⟩⟩<;>simp [Builtin.len_,run_underlying ht,hv,goInt]
     · rename_i heq
       rw [heq] at hev
       refine hx _ (hb _ rfl) (v:=.int .i64 0) ?_ .int h
       simp [Builtin.len_,run_underlying ht,hev.fS,goInt]
     · exact h.elim
   · cases hc
 · rename_i x t rest
   have hev:=he x
   split at hc
   · rename_i el ht
     cases hc
     simp only [bH] at h
     split at h
     · rename_i heq
       rw [heq] at hev
       refine hx _ (hb _ rfl) (v:=.int .i64 0) ?_ .int h
       simp [Builtin.cap_,run_underlying ht,hev.fS,goInt]
     · rename_i id z off len c heq
       rw [heq] at hev
       refine hx _ (hb _ rfl) (v:=.int .i64 c) ?_ .int h
       rcases hev.xW with ⟨_,⟨A,hv,rfl,rfl,_⟩|⟨L,hL,hLz,hv,hlen,hcap⟩⟩<;>simp [Builtin.cap_,run_underlying ht,hv,goInt]
     · exact h.elim
   · cases hc
 · rename_i x xs
   cases hc
   simp only [bH] at h
   have hev:=he x
   split at h
   · rename_i k i heq
     rw [heq] at hev
     obtain ⟨r,h1,h2⟩:=oH (P:=P) k E.w (xs.map e) (xs.map a.eval) i K (by simp) (fun j y hj=>by
      rw [List.getElem?_map] at hj
      cases hxj:xs[j]? with
      | none=>rw [hxj] at hj;simp at hj
      | some q =>
        rw [hxj] at hj
        simp only [Option.map_some,Option.some.injEq] at hj
        subst hj
        rw [List.getD_eq_getElem?_getD,List.getElem?_map,hxj]
        exact he q) h
     refine hx _ (hb _ rfl) (v:=.int k r) ?_ .int h2
     simp only [Builtin.min_,List.map_toArray,List.map_cons,hev.dB]
     exact h1
   · exact h.elim
 · rename_i x xs
   cases hc
   simp only [bH] at h
   have hev:=he x
   split at h
   · rename_i k i heq
     rw [heq] at hev
     obtain ⟨r,h1,h2⟩:=oI (P:=P) k E.w (xs.map e) (xs.map a.eval) i K (by simp) (fun j y hj=>by
      rw [List.getElem?_map] at hj
      cases hxj:xs[j]? with
      | none=>rw [hxj] at hj;simp at hj
      | some q =>
        rw [hxj] at hj
        simp only [Option.map_some,Option.some.injEq] at hj
        subst hj
        rw [List.getD_eq_getElem?_getD,List.getElem?_map,hxj]
        exact he q) h
     refine hx _ (hb _ rfl) (v:=.int k r) ?_ .int h2
     simp only [Builtin.max_,List.map_toArray,List.map_cons,hev.dB]
     exact h1
   · exact h.elim
 · cases hc
end sound
section sound
variable {P:Program} {E:Env} {n:Nat} {a:Act} {e:Operand->AV} {K:AV->Prop}
theorem iX:∀ {ks xs ys:List AV} {r:Bool},eC ks xs ys=some r->xs.length=ks.length/\ys.length=ks.length
 | [],[],[],_,_=>⟨rfl,rfl⟩
 | k :: ks,x :: xs,y :: ys,r,h=>by
   simp only [eC] at h
   split at h
   · rename_i p q hp hq
     have:=iX hq
     simp [this.1,this.2]
   · cases h
 | [],[],_ :: _,_,h=>by simp [eC] at h
 | [],_ :: _,[],_,h=>by simp [eC] at h
 | [],_ :: _,_ :: _,_,h=>by simp [eC] at h
 | _ :: _,[],[],_,h=>by simp [eC] at h
 | _ :: _,[],_ :: _,_,h=>by simp [eC] at h
 | _ :: _,_ :: _,[],_,h=>by simp [eC] at h
theorem oG:∀ {k1 k2 xs ys:List AV} {r:Bool},eC (k1++k2) xs ys=some r ->
 ∃ r1 r2,eC k1 (xs.take k1.length) (ys.take k1.length)=some r1/\eC k2 (xs.drop k1.length) (ys.drop k1.length)=some r2/\r=(r1&&r2)
 | [],k2,xs,ys,r,h=>⟨true,r,by simp [eC],by simpa using h,by simp⟩
 | k :: k1,k2,x :: xs,y :: ys,r,h=>by
   simp only [List.cons_append,eC] at h
   split at h
   · rename_i p q hp hq
     obtain ⟨r1,r2,h1,h2,h3⟩:=oG hq
     subst h3
     cases h
     exact ⟨p&&r1,r2,by simp [eC,hp,h1],by simpa using h2,by cases p<;>cases r1<;>rfl⟩
   · cases h
 | _ :: _,_,[],[],_,h=>by simp [eC] at h
 | _ :: _,_,[],_ :: _,_,h=>by simp [eC] at h
 | _ :: _,_,_ :: _,[],_,h=>by simp [eC] at h
def valOf (P:Program) (t:TypeId) (xs:List Value):Value:=if fY P t then .agg xs.toArray else xs.getD 0 undef
theorem info_of_underlying {t:TypeId} {d:TypeDesc} (h:P.underlying t=some d):∃ i,P.info? t=some i:=by
 unfold Program.underlying at h
 cases hi:P.info? t with
 | some i=>exact ⟨i,rfl⟩
 | none=>simp [hi] at h
theorem aGz {vs:List Value} {xs:List AV} (hv:∀ k y,xs[k]?=some y->E.VR n (vs.getD k undef) y) (off m:Nat) :
 ∀ k y,((xs.drop off).take m)[k]?=some y->E.VR n (((vs.drop off).take m).getD k undef) y:=by
 intro k y hk
 obtain ⟨h2,h3⟩:=sF hk
 have:=hv _ _ (o9 h2)
 rw [List.getD_eq_getElem?_getD,List.getElem?_take,if_pos h3,List.getElem?_drop,<- List.getD_eq_getElem?_getD]
 exact this
def aQc (P:Program) (f:TypeId->Option (List AV)):Prop:=∀ t ks,f t=some ks->(∃ d,P.underlying t=some d/\(kJ d=true∨ks.length=1))/\(fY P t=true->ks.length=P.cellsOf t)
theorem wI (d:Nat):aQc P (mH P d):=by
 intro t ks h
 cases d with
 | zero=>simp [mH] at h
 | succ d =>
   simp only [mH] at h
   split at h
   · rename_i hu;cases h;exact ⟨⟨_,hu,.inr rfl⟩,by simp [fY,hu,kJ]⟩
   · rename_i hu;cases h;exact ⟨⟨_,hu,.inr rfl⟩,by simp [fY,hu,kJ]⟩
   · rename_i hu;cases h;exact ⟨⟨_,hu,.inr rfl⟩,by simp [fY,hu,kJ]⟩
   · rename_i fs hu
     split at h
     · cases h
     · split at h
       · rename_i ks' hk
         split at h
         · rename_i hl;cases h;exact ⟨⟨_,hu,.inl rfl⟩,fun _=>hl⟩
         · cases h
       · cases h
   · cases h
theorem oJ {f:TypeId->Option (List AV)} (hf:aQc P f) (D:Nat) (vs us:List Value) (xs ys:List AV) (hvl:vs.length=xs.length) (hul:us.length=ys.length)
 (hv:∀ k y,xs[k]?=some y->E.VR n (vs.getD k undef) y) (hu:∀ k y,ys[k]?=some y->E.VR n (us.getD k undef) y)
 (hD:∀ (t:TypeId) (ks:List AV) (vs us:List Value) (xs ys:List AV) (b:Bool),f t=some ks->vs.length=xs.length->us.length=ys.length ->
   (∀ k y,xs[k]?=some y->E.VR n (vs.getD k undef) y)->(∀ k y,ys[k]?=some y->E.VR n (us.getD k undef) y)->eC ks xs ys=some b ->
   (Op.equalIn D t (valOf P t vs) (valOf P t us)).run P E.w= .ok b E.w) :
 ∀ (fs:List Field) (k:Nat) (ks:List AV) (b:Bool),k<=xs.length->k<=ys.length->pA f k fs=some ks->eC ks (xs.drop k) (ys.drop k)=some b ->
   (Op.eqFields D vs.toArray us.toArray fs).run P E.w= .ok b E.w
 | [],k,ks,b,_,_,hk,hb=>by
   simp only [pA,Option.some.injEq] at hk
   subst hk
   have hl:=iX hb
   have h1:xs.drop k=[]:=List.eq_nil_of_length_eq_zero hl.1
   have h2:ys.drop k=[]:=List.eq_nil_of_length_eq_zero hl.2
   rw [h1,h2] at hb
   simp only [eC,Option.some.injEq] at hb
   subst hb
   rfl
 | fd :: fs,k,ks,b,hkx,hky,hk,hb=>by
   simp only [pA] at hk
   split at hk
   · rename_i hc
     obtain ⟨ho,hnm⟩:=hc
     split at hk
     · rename_i k1 hk1
       split at hk
       · rename_i k2 hk2
         cases hk
         obtain ⟨r1,r2,h1,h2,rfl⟩:=oG hb
         obtain ⟨⟨d,hd,hsz⟩,hagg⟩:=hf _ _ hk1
         obtain ⟨ii,hii⟩:=info_of_underlying hd
         have hl1:=iX h1
         have hlk:k1.length<=(xs.drop k).length:=by have:=hl1.1;simp only [List.length_take] at this;omega
         have hlk2:k1.length<=(ys.drop k).length:=by have:=hl1.2;simp only [List.length_take] at this;omega
         simp only [List.length_drop] at hlk hlk2
         have hpart:∀ (ws:List Value),k+k1.length<=ws.length->(part fd.type ws.toArray fd.offset).run P E.w= .ok (valOf P fd.type ((ws.drop k).take k1.length)) E.w:=by
          intro ws hws
          have hag:fY P fd.type=kJ d:=by simp [fY,hd]
          rw [xJ hd hii ws _ (fun hb=>by
           rw [hag] at hb
           rcases hsz with h0|h0
           · rw [hb] at h0;cases h0
           · omega)]
          unfold valOf
          rw [ho]
          cases hb:fY P fd.type
          · simp only [Bool.false_eq_true,if_false]
            have h1:k1.length=1:=by
             rcases hsz with h0|h0
             · rw [hag] at hb;rw [hb] at h0;cases h0
             · exact h0
            rw [h1,List.getD_eq_getElem?_getD,List.getD_eq_getElem?_getD,List.getElem?_take,if_pos (by omega),List.getElem?_drop,Nat.add_zero]
          · simp only [if_true]
            rw [hagg hb]
         have he:=hD fd.type k1 ((vs.drop k).take k1.length) ((us.drop k).take k1.length) _ _ r1 hk1 (by simp [hvl]) (by simp [hul]) (aGz hv k k1.length) (aGz hu k k1.length) h1
         simp only [Op.eqFields,hnm,ne_eq,not_false_eq_true,if_true,Sem.run_bind,hpart vs (by omega),hpart us (by omega),Result.andThen_ok,he]
         cases r1
         · simp
         · simp only [Bool.not_true,Bool.false_eq_true,if_false,Bool.true_and]
           exact oJ hf D vs us xs ys hvl hul hv hu hD fs (k+k1.length) k2 r2 (by omega) (by omega) hk2 (by rw [<- List.drop_drop,<- List.drop_drop];exact h2)
       · cases hk
     · cases hk
   · cases hk
theorem kP:∀ (d:Nat) (D:Nat),d<=D->∀ (t:TypeId) (ks:List AV) (vs us:List Value) (xs ys:List AV) (b:Bool),mH P d t=some ks->vs.length=xs.length->us.length=ys.length ->
 (∀ k y,xs[k]?=some y->E.VR n (vs.getD k undef) y)->(∀ k y,ys[k]?=some y->E.VR n (us.getD k undef) y)->eC ks xs ys=some b ->
 (Op.equalIn D t (valOf P t vs) (valOf P t us)).run P E.w= .ok b E.w
 | 0,D,_,t,ks,vs,us,xs,ys,b,h,_,_,_,_,_=>by simp [mH] at h
 | d+1,0,hD,t,ks,vs,us,xs,ys,b,h,_,_,_,_,_=>by omega
 | d+1,D+1,hD,t,ks,vs,us,xs,ys,b,h,hvl,hul,hv,hu,hb=>by
   have one:∀ {dd:TypeDesc} {q:AV},P.underlying t=some dd->kJ dd=false->ks=[q]->(∀ x y v u r,E.VR n v x->E.VR n u y->xH q x y=some r->(Op.equalIn (D+1) t v u).run P E.w= .ok r E.w) ->
    (Op.equalIn (D+1) t (valOf P t vs) (valOf P t us)).run P E.w= .ok b E.w:=by
    intro dd q hdd hag hq hh
    subst hq
    have hl:=iX hb
    match xs,hl.1,ys,hl.2 with
    | [x],_,[y],_ =>
      have hvx:=hv 0 x rfl
      have huy:=hu 0 y rfl
      simp only [eC] at hb
      have:xH q x y=some b:=by
       cases hs:xH q x y with
       | none=>rw [hs] at hb;cases hb
       | some q=>rw [hs] at hb;simpa using hb
      have ha:fY P t=false:=by simp [fY,hdd,hag]
      simp only [valOf,ha,Bool.false_eq_true,if_false]
      exact hh x y _ _ b hvx huy this
   simp only [mH] at h
   split at h
   · rename_i hdd
     cases h
     refine one hdd rfl rfl (fun x y v u r hvx huy hs=>?_)
     cases x<;>cases y<;>simp only [xH,reduceCtorEq,Option.some.injEq] at hs
     subst hs
     rw [hvx.gS,huy.gS]
     exact run_equalIn_bool _ _ _ _ _ hdd
   · rename_i k hdd
     cases h
     refine one hdd rfl rfl (fun x y v u r hvx huy hs=>?_)
     cases x<;>cases y<;>simp only [xH,reduceCtorEq] at hs
     split at hs
     · rename_i hk
       obtain ⟨rfl,rfl⟩:=hk
       cases hs
       rw [hvx.dB,huy.dB]
       exact run_equalIn_int _ _ _ _ _ _ _ hdd
     · cases hs
   · rename_i hdd
     cases h
     refine one hdd rfl rfl (fun x y v u r hvx huy hs=>?_)
     cases x<;>cases y<;>simp only [xH,reduceCtorEq,Option.some.injEq] at hs
     subst hs
     rw [hvx.jZ,huy.jZ,run_equalIn_string _ _ _ _ _ hdd,toList_mk,toList_mk]
   · rename_i fs hdd
     split at h
     · cases h
     · rename_i hst
       split at h
       · rename_i ks' hk
         split at h
         · rename_i hl
           cases h
           have ha:fY P t=true:=by simp [fY,hdd,kJ]
           simp only [valOf,ha,if_true]
           have hfs:P.fieldsOf t=fs:=by simp [Program.fieldsOf,hdd]
           rw [run_equalIn_struct _ _ _ _ _ (by rw [hfs];exact hdd) (by simpa using hst),hfs]
           exact oJ (wI d) D vs us xs ys hvl hul hv hu (kP d D (by omega)) fs.toList 0 _ b (by omega) (by omega) hk (by simpa using hb)
         · cases h
       · cases h
   · cases h
end sound
section sound
variable {P:Program} {E:Env} {n:Nat} {a:Act} {e:Operand->AV} {K:AV->Prop}
theorem aK1 {k:Nat} {t:TypeId} {d:TypeDesc} (hd:P.underlying t=some d) (hk:rM d=some k) {x y:AV} {v u:Value} (hx:E.VR n v x) (hy:E.VR n u y) (hn:aHR k y=true)
 {K:Bool->Prop} (D:Nat) (h:oW k x K):∃ b,(Op.equalIn (D+1) t v u).run P E.w= .ok b E.w/\K b:=by
 unfold oW at h
 split at h<;>(try exact h.elim)<;>cases d<;>simp only [rM,reduceCtorEq,Option.some.injEq] at hk<;>(try omega)
 all_goals (cases y<;>simp only [aHR,reduceCtorEq,Bool.false_eq_true] at hn)
 all_goals (cases hy)
 · cases hx
   exact ⟨true,by simp [Op.equalIn,run_underlying hd],h⟩
 · obtain ⟨L,_,_,rfl⟩:=hx.mY
   exact ⟨false,by simp [Op.equalIn,run_underlying hd],h⟩
 · obtain ⟨b,o,u,rfl,_⟩:=hx.aAC
   exact ⟨false,by simp [Op.equalIn,run_underlying hd],h⟩
 · cases hx
   exact ⟨true,by simp [Op.equalIn,run_underlying hd],h⟩
 · rcases hx.pM with ⟨A,c,rfl,rfl⟩|⟨b,o,c,u,rfl,_⟩
   · cases A with
     | none=>exact ⟨true,by simp [Op.equalIn,run_underlying hd],h.1 rfl⟩
     | some A=>exact ⟨false,by simp [Op.equalIn,run_underlying hd],h.2⟩
   · exact ⟨false,by simp [Op.equalIn,run_underlying hd],h.2⟩
 · obtain ⟨_,⟨A,rfl,rfl,he0⟩|⟨L,c,_,_,rfl,_⟩⟩:=hx.cN
   · cases A with
     | none=>exact ⟨true,by simp [Op.equalIn,run_underlying hd],h.1 rfl⟩
     | some A=>exact ⟨false,by simp [Op.equalIn,run_underlying hd],h.2⟩
   · exact ⟨false,by simp [Op.equalIn,run_underlying hd],h.2⟩
 · cases hx
   exact ⟨true,by simp [Op.equalIn,run_underlying hd],h⟩
 · cases hx
   exact ⟨true,by simp [Op.equalIn,run_underlying hd],h⟩
 · obtain ⟨as,bs,rfl,_⟩:=hx.aIx
   exact ⟨false,by simp [Op.equalIn,run_underlying hd],h⟩
theorem fZ {op:BinOp} {t:TypeId} {x y:Operand} {v u:Value} (w:World) (h:∀ cs,v≠ .agg cs) (h2:v≠ .nilIface):(eqGuard op t x y v u).run P w= .ok () w:=by
 unfold eqGuard
 cases op<;>simp<;>(cases v<;>simp_all)
theorem aH7 {o:Oper} {op:BinOp} {t t2:TypeId} {x y:Operand} {c:CO} (ho:o.op= .binOp op t x y t2) (hc:kE P op t x y=some c)
 (he:∀ x,E.VR n (a.eval x) (e x)) (h:bH c e K):LS P E n a o K:=by
 have hs:execOp a.eval o=(do pure (.value (<- (do eqGuard op t x y (a.eval x) (a.eval y);binOp op t (a.eval x) (a.eval y))))):=by simp only [execOp,ho]
 have hbin:bH (.bin op x y) e K->LS P E n a o K:=by
  intro h
  simp only [bH] at h
  obtain ⟨r,z,h1,h2,h3⟩:=aK2 (P:=P) (t:=t) (he x) (he y) h
  refine .of hs ?_ h2 h3
  have hnot:(∀ cs,a.eval x≠ .agg cs)/\a.eval x≠ .nilIface:=by
   have hx:=he x
   cases hex:e x<;>rw [hex] at h hx<;>simp only [uM] at h
   · rw [hx.dB];simp
   · rw [hx.jZ];simp
  simp only [Sem.run_bind,fZ _ hnot.1 hnot.2,Result.andThen_ok]
  exact h1
 unfold kE at hc
 split at hc
 · cases hc;exact hbin h
 · cases hc;exact hbin h
 · rename_i hd
   have hbool:∀ neg,(neg=false/\op= .eql∨neg=true/\op= .neq)->bH (.beq neg x y) e K->LS P E n a o K:=by
    intro neg hop h
    simp only [bH] at h
    split at h
    · rename_i p q hp hq
      have hx:=he x
      have hy:=he y
      rw [hp] at hx
      rw [hq] at hy
      rw [hx.gS,hy.gS] at hs
      rcases hop with ⟨rfl,rfl⟩|⟨rfl,rfl⟩
      · refine .of hs (v:=.bool (p==q)) ?_ .bool h
        simp only [Sem.run_bind,fZ (v:=.bool p) _ (by simp) (by simp),Result.andThen_ok]
        exact run_eql_bool _ _ _ _ hd
      · refine .of hs (v:=.bool (!(p==q))) ?_ .bool h
        simp only [Sem.run_bind,fZ (v:=.bool p) _ (by simp) (by simp),Result.andThen_ok]
        exact run_neq_bool _ _ _ _ hd
    · exact h.elim
   cases op<;>simp only [reduceCtorEq,Option.some.injEq] at hc
   · subst hc;exact hbool false (.inl ⟨rfl,rfl⟩) h
   · subst hc;exact hbool true (.inr ⟨rfl,rfl⟩) h
 · rename_i fs hd
   split at hc
   · rename_i ks hks
     split at hc
     · cases hc
     · rename_i hgd
       have hst:∀ neg,(neg=false/\op= .eql∨neg=true/\op= .neq)->bH (.seq neg ks x y) e K->LS P E n a o K:=by
        intro neg hop h
        simp only [bH] at h
        split at h
        · rename_i xs ys hp hq
          obtain ⟨b,hb,hk⟩:=h
          have hx:=he x
          have hy:=he y
          rw [hp] at hx
          rw [hq] at hy
          obtain ⟨vs,hv,hl,_,hvv⟩:=hx.lR
          obtain ⟨us,hu,hl2,_,huu⟩:=hy.lR
          rw [hv,hu] at hs
          have ha:fY P t=true:=by simp [fY,hd,kJ]
          have hr:=kP (P:=P) 40 10000 (by omega) t ks vs us xs ys b hks hl hl2 hvv huu hb
          simp only [valOf,ha,if_true] at hr
          have hg:(eqGuard op t x y (.agg vs.toArray) (.agg us.toArray)).run P E.w= .ok () E.w:=by
           unfold eqGuard
           have:P.eqGuardType P.depth t=false:=by simpa using hgd
           rcases hop with ⟨_,rfl⟩|⟨_,rfl⟩<;>simp [this]
          have hre:(Op.equal t (.agg vs.toArray) (.agg us.toArray)).run P E.w= .ok b E.w:=hr
          rcases hop with ⟨rfl,rfl⟩|⟨rfl,rfl⟩
          · refine .of hs (v:=.bool b) ?_ .bool hk
            simp only [Sem.run_bind,hg,Result.andThen_ok,binOp,hre,Sem.run_pure]
          · refine .of hs (v:=.bool (!b)) ?_ .bool hk
            simp only [Sem.run_bind,hg,Result.andThen_ok,binOp,hre,Sem.run_pure]
        · exact h.elim
       cases op<;>simp only [reduceCtorEq,Option.some.injEq] at hc
       · subst hc;exact hst false (.inl ⟨rfl,rfl⟩) h
       · subst hc;exact hst true (.inr ⟨rfl,rfl⟩) h
   · cases hc
 · rename_i d _ _ _ _ hd
   have hn:∀ k neg,rM d=some k->(neg=false/\op= .eql∨neg=true/\op= .neq)->bH (.isn k neg x y) e K->LS P E n a o K:=by
    intro k neg hk hop h
    simp only [bH] at h
    obtain ⟨hn,h⟩:=h
    obtain ⟨b,hr,hkb⟩:∃ b,(Op.equal t (a.eval x) (a.eval y)).run P E.w= .ok b E.w/\K (.bool (if neg=true then !b else b)):=aK1 hd hk (he x) (he y) hn 9999 h
    have hnot:(∀ cs,a.eval x≠ .agg cs)/\a.eval x≠ .nilIface:=by
     have hx:=he x
     generalize a.eval x=v at *
     cases hex:e x<;>rw [hex] at h hx<;>(try (simp only [oW] at h;done))<;>cases hx<;>simp
    have hbv:∀ w,(eqGuard op t x y (a.eval x) (a.eval y)).run P w= .ok () w:=fun w=>fZ w hnot.1 hnot.2
    have hbo:binOp .eql t (a.eval x) (a.eval y)=(do pure (.bool (<- Op.equal t (a.eval x) (a.eval y)))):=by
     have hx:=he x
     generalize a.eval x=v at *
     cases hex:e x<;>rw [hex] at h hx<;>(try (simp only [oW] at h;done))<;>cases hx<;>rfl
    have hbn:binOp .neq t (a.eval x) (a.eval y)=(do pure (.bool (!(<- Op.equal t (a.eval x) (a.eval y))))):=by
     have hx:=he x
     generalize a.eval x=v at *
     cases hex:e x<;>rw [hex] at h hx<;>(try (simp only [oW] at h;done))<;>cases hx<;>rfl
    rcases hop with ⟨rfl,rfl⟩|⟨rfl,rfl⟩
    · refine .of hs (v:=.bool b) ?_ .bool hkb
      simp only [Sem.run_bind,hbv,Result.andThen_ok,hbo,hr,Sem.run_pure]
    · refine .of hs (v:=.bool (!b)) ?_ .bool hkb
      simp only [Sem.run_bind,hbv,Result.andThen_ok,hbn,hr,Sem.run_pure]
   split at hc
   · rename_i k hk;cases hc;exact hn _ _ hk (.inl ⟨rfl,rfl⟩) h
   · rename_i k hk;cases hc;exact hn _ _ hk (.inr ⟨rfl,rfl⟩) h
   · cases hc
 · cases hc
end sound
section sound
variable {P:Program} {E:Env} {n:Nat} {a:Act} {e:Operand->AV} {K:AV->Prop}
theorem vI (off:Nat):∀ (vs:List Value) (j:Nat) (cs:Array Value),off+j+vs.length<=cs.size ->
 ((vs.zipIdx j).foldl (fun (cs:Array Value) (x:Value×Nat)=>cs.setIfInBounds (off+x.2) x.1) cs).toList=cs.toList.take (off+j)++vs++cs.toList.drop (off+j+vs.length)
 | [],j,cs,_=>by simp
 | v :: vs,j,cs,h=>by
   simp only [List.zipIdx_cons,List.foldl_cons]
   rw [vI off vs (j+1) _ (by simp at h ⊢;omega)]
   have hs:(cs.setIfInBounds (off+j) v).toList=cs.toList.set (off+j) v:=by simp
   rw [hs]
   have hlt:off+j<cs.toList.length:=by simp at h ⊢;omega
   rw [List.set_eq_take_append_cons_drop,if_pos hlt]
   have e1:(cs.toList.take (off+j)).length=off+j:=by simp;omega
   have e2:off+(j+1)=(cs.toList.take (off+j)).length+1:=by omega
   rw [e2,List.take_length_add_append,List.take_succ_cons]
   simp only [List.take_zero,List.length_cons]
   rw [show (cs.toList.take (off+j)).length+1+vs.length=(cs.toList.take (off+j)).length+(1+vs.length) from by omega,List.drop_length_add_append,Nat.add_comm 1 vs.length,List.drop_succ_cons,List.drop_drop]
   simp only [List.append_assoc,List.cons_append,List.nil_append]
   congr 4
   omega
theorem rT (place:Nat->Option (Nat×Nat)):∀ (parts:List (Nat×Nat×Nat×Operand)) (cells:List Value) (zs:List AV),cells.length=zs.length ->
 (∀ k y,zs[k]?=some y->E.VR n (cells.getD k undef) y)->(∀ y∈zs,y.one=true)->(∀ p∈parts,place p.1=some (p.2.1,p.2.2.1))->(∀ x,E.VR n (a.eval x) (e x)) ->
 cA zs.length (parts.map fun p=>(p.2.1,p.2.2.1,e p.2.2.2))=true ->
 ∃ cs:List Value,Instr.fill place cells.toArray (parts.map fun p=>(p.1,a.eval p.2.2.2))=some cs.toArray/\cs.length=zs.length /\
   (bU zs (parts.map fun p=>(p.2.1,p.2.2.1,e p.2.2.2))).length=zs.length /\
   (∀ k y,(bU zs (parts.map fun p=>(p.2.1,p.2.2.1,e p.2.2.2)))[k]?=some y->E.VR n (cs.getD k undef) y) /\
   ∀ y∈bU zs (parts.map fun p=>(p.2.1,p.2.2.1,e p.2.2.2)),y.one=true
 | [],cells,zs,hl,hv,h1,_,_,_=>⟨cells,rfl,hl,rfl,hv,h1⟩
 | (i,off,m,x) :: parts,cells,zs,hl,hv,h1,hp,he,hok=>by
   simp only [List.map_cons,cA,Bool.and_eq_true,beq_iff_eq,decide_eq_true_eq] at hok
   obtain ⟨⟨⟨hm,hoff⟩,h1x⟩,hok⟩:=hok
   have hpi:place i=some (off,m):=hp _ List.mem_cons_self
   have hx:=he x
   obtain ⟨hsz,_,hxv⟩:=hx.cells h1x
   have hsz2:(a.eval x).cells.size=m:=by omega
   have hcells:((a.eval x).cells.zipIdx.foldl (fun (cs:Array Value) (x:Value×Nat)=>cs.setIfInBounds (off+x.2) x.1) cells.toArray) =
    (cells.take off++(a.eval x).cells.toList++cells.drop (off+m)).toArray:=by
    apply Array.ext'
    rw [<- Array.foldl_toList,Array.toList_zipIdx,vI off _ 0 _ (by simp;omega)]
    simp [hsz2]
   have hzl:(zs.take off++(e x).cells++zs.drop (off+m)).length=zs.length:=by simp;omega
   obtain ⟨cs,h2,h3,h4,h5,h6⟩:=rT place parts (cells.take off++(a.eval x).cells.toList++cells.drop (off+m)) (zs.take off++(e x).cells++zs.drop (off+m)) (by simp;omega)
    (fun k y hk=>by
      by_cases hk1:k<off
      · rw [List.append_assoc,List.getElem?_append_left (by simp;omega),List.getElem?_take,if_pos hk1] at hk
        rw [List.getD_eq_getElem?_getD,List.append_assoc,List.getElem?_append_left (by simp;omega),List.getElem?_take,if_pos hk1,<- List.getD_eq_getElem?_getD]
        exact hv _ _ hk
      · by_cases hk2:k<off+m
        · rw [List.append_assoc,List.getElem?_append_right (by simp;omega),List.getElem?_append_left (by simp;omega)] at hk
          rw [List.getD_eq_getElem?_getD,List.append_assoc,List.getElem?_append_right (by simp;omega),List.getElem?_append_left (by simp;omega)]
          have e1:(zs.take off).length=off:=by simp;omega
          have e2:(cells.take off).length=off:=by simp;omega
          rw [e1] at hk
          rw [e2]
          have:=hxv _ _ hk
          simpa using this
        · rw [List.append_assoc,List.getElem?_append_right (by simp;omega),List.getElem?_append_right (by simp;omega)] at hk
          rw [List.getD_eq_getElem?_getD,List.append_assoc,List.getElem?_append_right (by simp;omega),List.getElem?_append_right (by simp;omega)]
          have e1:(zs.take off).length=off:=by simp;omega
          have e2:(cells.take off).length=off:=by simp;omega
          rw [e1,hm,List.getElem?_drop] at hk
          rw [e2,Array.length_toList,hsz2,List.getElem?_drop,<- List.getD_eq_getElem?_getD]
          exact hv _ _ hk)
    (fun y hy=>by
      rw [List.mem_append,List.mem_append] at hy
      rcases hy with (hy|hy)|hy
      · exact h1 y (List.mem_of_mem_take hy)
      · exact List.all_eq_true.1 h1x y hy
      · exact h1 y (List.mem_of_mem_drop hy))
    (fun p hp'=>hp p (List.mem_cons_of_mem _ hp')) he (by rw [hzl];exact hok)
   rw [hzl] at h3 h4
   refine ⟨cs,?_,h3,h4,h5,h6⟩
   simp only [List.map_cons,Instr.fill,hpi]
   rw [if_neg (by simp [hsz2];omega),hcells]
   exact h2
theorem oA {t:TypeId} {zs:List AV} (h:fR P t=some zs):∃ v,(zeroValue t).run P E.w= .ok v E.w/\v.cells.toList.length=zs.length/\(∀ y∈zs,y.one=true) /\
 ∀ k y,zs[k]?=some y->E.VR n (v.cells.toList.getD k undef) y:=by
 unfold fR at h
 split at h
 · rename_i v hv
   split at h
   · rename_i hall
     cases h
     cases hi:P.info? t with
     | none=>simp [hi] at hv
     | some i =>
       simp only [hi,Option.bind_some] at hv
       refine ⟨v,by simp [zeroValue,typeInfo,hi,hv],by simp,fun y hy=>List.all_eq_true.1 hall y hy,fun k y hk=>?_⟩
       rw [List.getElem?_map] at hk
       cases hc:v.cells.toList[k]? with
       | none=>rw [hc] at hk;simp at hk
       | some u =>
         rw [hc] at hk
         simp only [Option.map_some,Option.some.injEq] at hk
         subst hk
         rw [List.getD_eq_getElem?_getD,hc]
         exact vU u
   · cases h
 · cases h
theorem lT (w:World):∀ (fs:List Field),(∀ f∈fs,(P.info? f.type).isSome=true) ->
 (fs.mapM fun f=>(do pure (f.offset,<- sizeOf f.type):Sem (Nat×Nat))).run P w= .ok (fs.map fun f=>(f.offset,P.cellsOf f.type)) w
 | [],_=>by simp
 | f :: fs,h=>by
   obtain ⟨ii,hii⟩:=Option.isSome_iff_exists.1 (h f List.mem_cons_self)
   have ih:=lT w fs (fun g hg=>h g (List.mem_cons_of_mem _ hg))
   simp only [List.mapM_cons,Sem.run_bind,run_sizeOf _ hii,Result.andThen_ok,Sem.run_pure,ih,List.map_cons]
theorem aH6 {o:Oper} {t:TypeId} {parts:Array (Nat×Operand)} {c:CO} (ho:o.op= .build t parts) (hc:fW P t parts.toList=some c)
 (he:∀ x,E.VR n (a.eval x) (e x)) (h:bH c e K):LS P E n a o K:=by
 have hs:execOp a.eval o=(do pure (.value (<- Instr.build t (parts.map fun (i,x)=>(i,a.eval x))))):=by simp only [execOp,ho]
 obtain ⟨parts⟩:=parts
 simp only at hc
 unfold fW at hc
 have key:∀ (zs:List AV) (ps:List (Nat×Nat×Nat×Operand)) (place:Nat->Option (Nat×Nat)),fR P t=some zs->ps.map (fun p=>(p.1,p.2.2.2))=parts ->
  (∀ p∈ps,place p.1=some (p.2.1,p.2.2.1)) ->
  (∀ v,(zeroValue t).run P E.w= .ok v E.w->∀ cs,Instr.fill place v.cells (parts.map fun p=>(p.1,a.eval p.2))=some cs->(Instr.build t (parts.map fun p=>(p.1,a.eval p.2)).toArray).run P E.w= .ok (.agg cs) E.w) ->
  bH (.bld zs (ps.map fun p=>(p.2.1,p.2.2.1,p.2.2.2))) e K->LS P E n a o K:=by
  intro zs ps place hz hps hpl hrun hk
  simp only [bH,List.map_map] at hk
  obtain ⟨hok,hone,hk⟩:=hk
  obtain ⟨v,hv,hl,h1,hvv⟩:=oA (E:=E) (n:=n) hz
  obtain ⟨cs,h2,h3,h4,h5,h6⟩:=rT (E:=E) (n:=n) (a:=a) (e:=e) place ps v.cells.toList zs hl hvv h1 hpl he hok
  have e1:(ps.map fun p=>(p.1,a.eval p.2.2.2))=parts.map fun p=>(p.1,a.eval p.2):=by rw [<- hps,List.map_map];rfl
  rw [e1] at h2
  refine .of (v:=.agg cs.toArray) hs ?_ ?_ hk
  · simpa using hrun v hv cs.toArray (by simpa using h2)
  · exact .agg (by rw [h3];exact h4.symm) h6 h5
 split at hc
 · rename_i zs fs hz hd
   split at hc
   · rename_i hcond
     simp only [Bool.and_eq_true,List.all_eq_true,decide_eq_true_eq] at hcond
     obtain ⟨hinf,hlt⟩:=hcond
     cases hc
     refine key zs (parts.map fun p=>(p.1,(fs.getD p.1 ⟨ "",0,0,false, "", "",0⟩).offset,P.cellsOf (fs.getD p.1 ⟨ "",0,0,false, "", "",0⟩).type,p.2))
      (fun i=>(fs.toList.map fun f=>(f.offset,P.cellsOf f.type)).toArray[i]?) hz (by simp [List.map_map,Function.comp_def]) (fun p hp=>?_) (fun v hv cs hcs=>?_) (by simpa [List.map_map,Function.comp_def] using h)
     · obtain ⟨q,hq,rfl⟩:=List.mem_map.1 hp
       have hq1:=hlt q hq
       simp [Array.getElem?_eq_getElem hq1]
     · simp only [Instr.build,Sem.run_bind,hv,Result.andThen_ok,run_underlying hd]
       have hm:(fs.mapM fun f=>(do pure (f.offset,<- sizeOf f.type):Sem (Nat×Nat))).run P E.w= .ok (fs.toList.map fun f=>(f.offset,P.cellsOf f.type)).toArray E.w:=by
        rw [Array.mapM_eq_mapM_toList]
        simp only [Sem.run_map,lT E.w fs.toList hinf,Result.andThen_ok]
       simp only [hm,Result.andThen_ok,hcs,Sem.run_pure]
   · cases hc
 · rename_i zs len el hz hd
   split at hc
   · rename_i hi
     obtain ⟨ii,hii⟩:=Option.isSome_iff_exists.1 hi
     cases hc
     refine key zs (parts.map fun p=>(p.1,p.1*P.cellsOf el,P.cellsOf el,p.2)) (fun i=>some (i*P.cellsOf el,P.cellsOf el)) hz (by simp [List.map_map,Function.comp_def]) (fun p hp=>?_) (fun v hv cs hcs=>?_)
      (by simpa [List.map_map,Function.comp_def] using h)
     · obtain ⟨q,hq,rfl⟩:=List.mem_map.1 hp
       rfl
     · simp only [Instr.build,Sem.run_bind,hv,Result.andThen_ok,run_underlying hd,run_sizeOf _ hii,hcs,Sem.run_pure]
   · cases hc
 · cases hc
end sound
section sound
variable {P:Program} {E:Env} {n:Nat} {a:Act} {e:Operand->AV} {K:AV->Prop}
theorem iL (he:∀ x,E.VR n (a.eval x) (e x)) (l:List Operand):∀ k y,(l.map e)[k]?=some y->E.VR n ((l.map a.eval).getD k undef) y:=by
 intro k y hk
 rw [List.getElem?_map] at hk
 cases hx:l[k]? with
 | none=>rw [hx] at hk;simp at hk
 | some q =>
   rw [hx] at hk
   simp only [Option.map_some,Option.some.injEq] at hk
   subst hk
   rw [List.getD_eq_getElem?_getD,List.getElem?_map,hx]
   exact he q
theorem qT {o:Oper} {c:CO} (hc:cJ P o=some c) (he:∀ x,E.VR n (a.eval x) (e x)) (h:bH c e K):LS P E n a o K:=by
 unfold cJ at hc
 split at hc
 · rename_i x ho
   cases hc
   exact ⟨a.eval x,e x,by simp [execOp,ho],he x,h⟩
 · rename_i x ho
   cases hc
   exact ⟨a.eval x,e x,by simp [execOp,ho],he x,h⟩
 · rename_i c x y ho
   cases hc
   have hcv:=he c
   simp only [bH] at h
   split at h
   · rename_i b heq
     rw [heq] at hcv
     refine ⟨if b then a.eval x else a.eval y,if b then e x else e y,?_,?_,h⟩
     · simp only [execOp,ho,hcv.gS,asBool]
       cases b<;>simp
     · cases b
       · exact he y
       · exact he x
   · exact h.elim
 · rename_i op t x y _ ho
   exact aH7 ho hc he h
 · rename_i op t x ho
   cases hc
   have hs:execOp a.eval o=(do pure (.value (<- Op.unary op (a.eval x)))):=by simp only [execOp,ho]
   have hx:=he x
   simp only [bH,unK] at h
   split at h
   · rename_i b heq
     rw [heq] at hx
     rw [hx.gS] at hs
     exact .of hs (v:=.bool (!b)) (by simp [Op.unary]) .bool h
   · rename_i k i heq
     rw [heq] at hx
     rw [hx.dB] at hs
     exact .of hs (v:=.int k (k.wrap (0-i))) (by simp [Op.unary,Op.intArith]) .int h
   · rename_i k i heq
     rw [heq] at hx
     rw [hx.dB] at hs
     exact .of hs (v:=.int k (k.wrap (BitVec.ofInt k.bits (if k.signed then -1 else k.max) ^^^ BitVec.ofInt k.bits i).toNat)) (by simp only [Op.unary];exact iH .xor _ _ _ _ (by simp)) .int h
   · exact h.elim
 · rename_i s d x ho
   have hs:execOp a.eval o=(do pure (.value (<- convert s d (a.eval x)))):=by simp only [execOp,ho]
   have hx:=he x
   unfold jA at hc
   split at hc
   · rename_i k1 k2 h1 h2
     cases hc
     simp only [bH] at h
     split at h
     · rename_i k i heq
       rw [heq] at hx
       rw [hx.dB] at hs
       exact .of hs (v:=.int k2 (k2.wrap i)) (by simp [convert,run_underlying h1,run_underlying h2,Conv.intToInt]) .int h
     · exact h.elim
   · cases hc
 · rename_i fn first cap ho
   cases hc
   refine ⟨.func fn (first.map a.eval) (cap.map a.eval),_,by simp [execOp,ho,Instr.makeFunc],?_,h⟩
   have e1:first.map a.eval=(first.toList.map a.eval).toArray:=by apply Array.ext';rw [Array.toList_map]
   have e2:cap.map a.eval=(cap.toList.map a.eval).toArray:=by apply Array.ext';rw [Array.toList_map]
   rw [e1,e2]
   exact .fn (by simp) (by simp) (iL he _) (iL he _)
 · rename_i t x lo hi ho
   have hs:execOp a.eval o=(do pure (.value (<- Instr.sliceAt t (a.eval x) (lo.map a.eval) (hi.map a.eval) none))):=by simp only [execOp,ho];rfl
   split at hc
   · rename_i ht
     cases hc
     simp only [bH] at h
     split at h
     · rename_i s heq
       have hx:=he x
       rw [heq] at hx
       rw [hx.jZ] at hs
       obtain ⟨hb1,⟨h1,h2⟩,h3⟩:=iY (P:=P) (E:=E) (n:=n) (cap:=s.length) (code:=.sliceAlen) (vT he hi) h
       obtain ⟨lb,⟨h4,h5⟩,h6⟩:=iY (P:=P) (E:=E) (n:=n) (cap:=hb1) (code:=.sliceB) (vT he lo) h2
       refine .of hs (v:=.string ((⟨s.toArray⟩:ByteArray).extract lb hb1)) ?_ (.str ?_) h5
       · simp only [Instr.sliceAt,Sem.run_bind,run_underlying ht,Result.andThen_ok,Instr.slice,Instr.sliceBounds,Sem.run_pure,iW]
         cases hi with
         | none =>
           subst h3
           cases lo with
           | none=>subst h6;simp [iW]
           | some u=>simp only [Option.map_some] at h6 ⊢;simp [iW,h6 h4]
         | some u' =>
           simp only [Option.map_some] at h3 ⊢
           cases lo with
           | none=>subst h6;simp [iW,h3 h1]
           | some u=>simp only [Option.map_some] at h6 ⊢;simp [iW,h3 h1,h6 h4]
       · simp [List.extract_toArray,List.drop_take]
     · exact h.elim
   · rename_i el ht
     split at hc
     · rename_i hi0
       cases hc
       simp only [bH] at h
       obtain ⟨r,y,h1,h2,h3⟩:=aBw ht hi0 rfl (he x) (vT he lo) (vT he hi) h
       exact .of hs h1 h2 h3
     · cases hc
   · cases hc
 · rename_i t x f ho
   exact aRt ho hc he h
 · rename_i t x f ho
   exact aRs ho hc he h
 · rename_i t x i ho
   split at hc
   · rename_i el ht
     split at hc
     · cases hc;exact aRq ho ht (by assumption) he h
     · cases hc
   · cases hc
 · rename_i t x i ho
   split at hc
   · rename_i ht
     cases hc
     exact aRp ho ht he h
   · cases hc
 · rename_i x i ho
   cases hc
   have hs:execOp a.eval o=(do pure (.value (<- Instr.extract (a.eval x) i))):=by simp only [execOp,ho]
   have hx:=he x
   simp only [bH] at h
   split at h
   · rename_i vs heq
     rw [heq] at hx
     obtain ⟨us,hv,hl,hvv⟩:=hx.mU
     obtain ⟨h1,hk⟩:=h
     rw [hv] at hs
     refine .of hs (v:=us.getD i undef) ?_ (hvv i _ (by rw [List.getD_eq_getElem?_getD,List.getElem?_eq_getElem h1];rfl)) hk
     have e1:us.toArray[i]?=some (us.getD i undef):=by
      have:i<us.length:=by omega
      simp [List.getD_eq_getElem?_getD,List.getElem?_eq_getElem this]
     simp only [Instr.extract,e1,Sem.run_pure]
   · exact h.elim
 · rename_i t parts ho
   exact aH6 ho hc he h
 · rename_i b args ts ho
   exact aAr ho hc he h
 · cases hc
theorem aIm {op:BinOp} {k:IntKind} {x y:Int} (h:ik op k x y K):∃ z,ik op k x y (· =z)/\K z:=by
 cases op<;>simp only [ik] at h ⊢ <;>first
  | exact ⟨_,rfl,h⟩
  | exact ⟨_,⟨h.1,rfl⟩,h.2⟩
theorem aGL {op:BinOp} {x y:List UInt8} (h:sk op x y K):∃ z,sk op x y (· =z)/\K z:=by
 cases op<;>simp only [sk] at h ⊢ <;>first
  | exact h.elim
  | exact ⟨_,rfl,h⟩
  | exact ⟨_,⟨h.1,rfl⟩,h.2⟩
theorem tY {x:Option AV} {d:Nat} {K:Nat->Prop} (h:dQ x d K):∃ z,dQ x d (· =z)/\K z:=by
 unfold dQ at h ⊢
 split at h
 · exact ⟨_,rfl,h⟩
 · exact ⟨_,⟨h.1,rfl⟩,h.2⟩
 · exact h.elim
theorem iD {x:Option AV} {d:Nat} {K K':Nat->Prop} (hk:∀ z,K z->K' z) (h:dQ x d K):dQ x d K':=by
 unfold dQ at h ⊢
 split at h
 · exact hk _ h
 · exact ⟨h.1,hk _ h.2⟩
 · exact h.elim
theorem lP {lo hi:Option AV} {d m:Nat} {f:Nat->Nat->AV} {K:AV->Prop} (h:dQ hi d fun h=>h<=m/\dQ lo 0 fun lw=>lw<=h/\K (f lw h)) :
 ∃ z,(dQ hi d fun h=>h<=m/\dQ lo 0 fun lw=>lw<=h/\f lw h=z)/\K z:=by
 obtain ⟨h1,h2,h3,h4⟩:=tY h
 obtain ⟨l1,l2,l3,l4⟩:=tY h4
 exact ⟨f l1 h1,iD (fun z hz=>by subst hz;exact ⟨h3,iD (fun q hq=>by subst hq;exact ⟨l3,rfl⟩) l2⟩) h2,l4⟩
theorem vB {mx:Bool} {k:IntKind}:∀ {xs:List AV} {acc:Int},mmK mx k acc xs K->∃ z,mmK mx k acc xs (· =z)/\K z
 | [],acc,h=>⟨_,rfl,h⟩
 | x :: xs,acc,h=>by
   cases x<;>simp only [mmK] at h ⊢
   obtain ⟨h1,h2⟩:=h
   obtain ⟨z,h3,h4⟩:=vB h2
   exact ⟨z,⟨h1,h3⟩,h4⟩
theorem aAm {k:Nat} {x:AV} {K:Bool->Prop} (hd:match k,x with
 | 1,.sl _ _ l=>0<l.length
 | 1,.own _ _ _ len=>0<len
 | _,_=>True) (h:oW k x K):∃ z,oW k x (· =z)/\K z:=by
 unfold oW at h ⊢
 split at h<;>first
  | exact h.elim
  | exact ⟨_,rfl,h⟩
  | exact ⟨false,⟨fun e=>by subst e;simp at hd,rfl⟩,h.2⟩
theorem u9 {k:Nat} {x:AV} {K K':Bool->Prop} (hk:∀ b,K b->K' b) (h:oW k x K):oW k x K':=by
 unfold oW at h ⊢
 split at h<;>first
  | exact h.elim
  | exact hk _ h
  | exact ⟨fun e=>hk _ (h.1 e),hk _ h.2⟩
theorem mG {c:CO} (hd:det c e=true) (h:bH c e K):∃ y,bH c e (· =y)/\K y:=by
 cases c<;>simp only [bH] at h ⊢
 case slc z x lo hi =>
  unfold slK at h ⊢
  split at h
  · obtain ⟨h0,h⟩:=h
    obtain ⟨y,h1,h2⟩:=lP h
    exact ⟨y,⟨h0,h1⟩,h2⟩
  · obtain ⟨h0,h⟩:=h
    obtain ⟨y,h1,h2⟩:=lP h
    exact ⟨y,⟨h0,h1⟩,h2⟩
  · obtain ⟨y,h1,h2⟩:=lP (f:=fun _ _=>.aD) h
    exact ⟨y,h1,h2⟩
  · exact h.elim
 case bin op x y =>
  unfold uM at h ⊢
  split at h
  · obtain ⟨z,h1,h2⟩:=aIm h.2
    exact ⟨z,⟨h.1,h1⟩,h2⟩
  · exact aGL h
  · exact h.elim
 case un op x =>
  unfold unK at h ⊢
  split at h<;>first|exact h.elim|exact ⟨_,rfl,h⟩
 case isn k neg x y =>
  obtain ⟨h0,h⟩:=h
  obtain ⟨b,h1,h2⟩:=aAm (by
   simp only [det] at hd
   split<;>simp_all) h
  exact ⟨_,⟨h0,u9 (fun q hq=>by subst hq;rfl) h1⟩,h2⟩
 case seq neg ks x y =>
  split at h
  · obtain ⟨b,h1,h2⟩:=h
    exact ⟨_,⟨b,h1,rfl⟩,h2⟩
  · exact h.elim
 case sls x lo hi =>
  split at h
  · exact lP h
  · exact h.elim
 case mm mx x xs =>
  split at h
  · exact vB h
  · exact h.elim
 all_goals first
  | exact h.elim
  | exact ⟨_,rfl,h⟩
  | exact ⟨_,⟨h.1,h.2.1,rfl⟩,h.2.2⟩
  | (split at h<;>first
      | exact h.elim
      | exact ⟨_,rfl,h⟩
      | exact ⟨_,⟨h.1,rfl⟩,h.2⟩
      | exact ⟨_,⟨h.1,h.2.1,rfl⟩,h.2.2⟩
      | exact ⟨_,⟨h.1,h.2.1,h.2.2.1,rfl⟩,h.2.2.2⟩
      | exact ⟨_,⟨h.1,h.2.1,h.2.2.1,h.2.2.2.1,rfl⟩,h.2.2.2.2⟩)
end sound
end Go.Ab
