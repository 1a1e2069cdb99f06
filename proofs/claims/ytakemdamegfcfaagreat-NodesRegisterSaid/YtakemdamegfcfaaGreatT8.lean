/- A part of a proof: how code is told and stepped through. No condition. -/
import Derived.Test.YtakemdamegfcfaaGreatT6
set_option linter.defProp false
set_option linter.unusedSimpArgs false
set_option linter.unusedVariables false
namespace Go.Ab
open Go
theorem aMR {α:Type} [Inhabited α] {f:α->AV} {l:List α} {t:Bool} {z z':Nat} {k:IntKind} {j:Int} {K:AV->Prop} :
 aIo z (.sl t z' (l.map f)) (.int k j) K=(z'=z/\0<=j/\j<l.length/\cM (.ip t (f (l.getD j.toNat default)).cells) K):=by
 simp only [aIo,List.length_map]
 apply propext
 constructor<;>rintro ⟨h1,h2,h3,h4⟩<;>refine ⟨h1,h2,h3,?_⟩ <;>
  (have h5:j.toNat<l.length:=by omega
   simpa [List.getD_eq_getElem?_getD,List.getElem?_map,List.getElem?_eq_getElem h5] using h4)
theorem aMF {α:Type} [Inhabited α] {f:α->AV} {l:List α} {n:Nat} {agg:Bool} {i off z:Nat} {K:AV->Prop} :
 rG n agg i off (some (.arr z (l.map f))) K=(i<l.length/\off+n<=z/\(agg=true∨n=1)/\cM (partOf (f (l.getD i default)).cells off n agg) K):=by
 simp only [rG,List.length_map]
 apply propext
 constructor<;>rintro ⟨h1,h2,h3,h4⟩<;>refine ⟨h1,h2,h3,?_⟩ <;>
  simpa [List.getD_eq_getElem?_getD,List.getElem?_map,List.getElem?_eq_getElem h1] using h4
theorem aMQ {id z z' off len:Nat} {k:IntKind} {j:Int} {K:AV->Prop}:aIo z (.own id z' off len) (.int k j) K=(z'=z/\0<=j/\j<len/\cM (.ref id (off+j.toNat) 0) K):=rfl
theorem aMG {n:Nat} {agg:Bool} {i off:Nat} {cs:List AV} {K:AV->Prop}:rG n agg i off (some (.box cs)) K=(i=0/\off+n<=cs.length/\(agg=true∨n=1)/\cM (partOf cs off n agg) K):=rfl
def U8 (x:UInt8):AV:=.int .u8 (x.toNat:Int)
section cells
variable {k:IntKind} {n:Int} {b:Bool} {s:List UInt8} {t:Bool} {z:Nat} {l:List AV}
theorem aFZ:(AV.int k n).cells=[.int k n]:=rfl
theorem aAS:(AV.bool b).cells=[.bool b]:=rfl
theorem aFX:(AV.str s).cells=[.str s]:=rfl
theorem aIU:(AV.sl t z l).cells=[.sl t z l]:=rfl
theorem aAR:AV.aD.cells=[.aD]:=rfl
theorem aF0:(AV.agg l).cells=l:=rfl
theorem aFY {id o q:Nat}:(AV.own id z o q).cells=[.own id z o q]:=rfl
theorem ok_int:(AV.int k n).ok=true:=rfl
theorem aMf:(AV.bool b).ok=true:=rfl
theorem aQ7:(AV.str s).ok=true:=rfl
theorem aU1:(AV.sl t z l).ok= !t:=rfl
theorem aMe:AV.aD.ok=true:=rfl
theorem aMd:(AV.int k n).one=true:=rfl
theorem aHw:(AV.bool b).one=true:=rfl
theorem aMb:(AV.str s).one=true:=rfl
theorem aQ5:(AV.sl t z l).one=true:=rfl
theorem aHv:AV.aD.one=true:=rfl
theorem aMc {id o q:Nat}:(AV.own id z o q).one=true:=rfl
end cells
def I64 (n:Int):AV:=.int .i64 n
def SB (l:List UInt8):AV:=.sl false 1 (l.map U8)
def STR (l:List UInt8):AV:=.str l
def SI (l:List Int):AV:=.sl false 1 (l.map I64)
section aD
variable {K:Bool->Prop} {t:Bool} {z id o q:Nat} {l:List AV}
theorem aRk:oW 1 (.sl t z l) K=((l=[]->K true)/\K false):=rfl
theorem aU3:aHR 1 .aD=true:=rfl
end aD
theorem rA:∀ l:List UInt8,bytesOf (l.map U8)=some l
 | []=>rfl
 | a :: l=>by
   have this:UInt8.ofNat (a.toNat:Int).toNat=a:=by simp
   show (match bytesOf (l.map U8) with
    | some s=>some (UInt8.ofNat ((a.toNat:Int)).toNat :: s)
    | none=>none)=some (a :: l)
   rw [rA l,this]
theorem aEG {l:List UInt8} {K:AV->Prop}:aF1 (some (l.map U8)) K=K (.str l):=by
 simp only [aF1,rA,Option.some.injEq,exists_eq_left']
theorem aQh {b:Bool} {K:AV->Prop}:unK .not (.bool b) K=K (.bool (!b)):=rfl
theorem aNm {K:AV->Prop}:aF1 (some []) K=K (.str []):=by simp only [aF1,bytesOf,Option.some.injEq,exists_eq_left']
theorem Vw.sU {α:Type} {f:α->AV} {H:List AO} {id z:Nat} {l:List α} (h:H[id]?=some (.arr z (l.map f))):Vw true H (.own id z 0 l.length) (.sl true z (l.map f)) :=
 Vw.own (by simp only [rdS,if_true,h,List.length_map,Nat.zero_add,Nat.le_refl,and_self,List.drop_zero];rw [List.take_of_length_le (by simp)])
theorem y6 {a x:AV} (h:x.one=true) (ha:a.one=true):dS a 0 1 [x]=x:=by
 cases a<;>simp [AV.one] at ha<;>simp [dS,AV.cells]
theorem aKF {l:List Int} {i:Nat} {n:Int}:(l.map I64).set i (dS ((l.map I64).getD i .top) 0 1 [.int .i64 n])=(l.set i n).map I64:=by
 rw [List.map_set]
 by_cases h:i<l.length
 · congr 1
   rw [List.getD_eq_getElem?_getD,List.getElem?_map,List.getElem?_eq_getElem h]
   exact y6 rfl rfl
 · rw [List.set_eq_of_length_le (by simp;omega),List.set_eq_of_length_le (by simp;omega)]
section decs
variable {a b:Int}
theorem aW0 (h:a<b):decide (a<b)=true:=decide_eq_true h
theorem aW1 (h:¬ a<b):decide (a<b)=false:=decide_eq_false h
theorem aW2 (h:a<=b):decide (a<=b)=true:=decide_eq_true h
theorem aW3 (h:¬ a<=b):decide (a<=b)=false:=decide_eq_false h
theorem aW4 (h:a=b):(a==b)=true:=beq_iff_eq.2 h
theorem aW5 (h:¬ a=b):(a==b)=false:=beq_eq_false_iff_ne.2 h
theorem aWY (h:¬ a=b):(a !=b)=true:=bne_iff_ne.2 h
theorem aWZ (h:a=b):(a !=b)=false:=by simp [h]
end decs
theorem aAF {a b:Int} {K:AV->Prop}:ik .shr .i64 a b K=(0<=b/\K (.int .i64 (a.fdiv (2^(min b.toNat 64))))):=rfl
theorem aAG {a b:Int} {K:AV->Prop}:ik .shl .i64 a b K=(0<=b/\K (.int .i64 (IntKind.i64.wrap (a*2^(min b.toNat 64))))):=rfl
theorem Vw.wA {α:Type} {f:α->AV} {H:List AO} {id z n:Nat} {l:List α} (h:H[id]?=some (.arr z (l.map f))) (hn:n=l.length):Vw true H (.own id z 0 n) (.sl true z (l.map f)):=by
 subst hn
 exact Vw.sU h
section
open Go
variable {K:AV->Prop}
theorem wrap_i64 {z:Int} (h1: -9223372036854775808<=z) (h2:z<9223372036854775808):IntKind.i64.wrap z=z:=by
 simp [IntKind.wrap,IntKind.signed,IntKind.bits]
 omega
theorem wrap_u8 (z:Int):IntKind.u8.wrap z=((BitVec.ofInt 8 z).toNat:Int):=by
 simp [IntKind.wrap,IntKind.signed,IntKind.bits,BitVec.toNat_ofInt]
 omega
theorem aFx {a b:Int}:ik .sub .u8 a b K=K (.int .u8 ((BitVec.ofInt 8 a-BitVec.ofInt 8 b).toNat:Int)):=by
 show K (.int .u8 (IntKind.u8.wrap (a-b)))=_
 rw [wrap_u8,Int.sub_eq_add_neg,BitVec.ofInt_add,BitVec.ofInt_neg,BitVec.sub_eq_add_neg]
theorem aSC {k':IntKind} {a:Int}:aM7 .u8 (.int k' a) K=cM (.int .u8 ((BitVec.ofInt 8 a).toNat:Int)) K:=by
 simp only [aM7,wrap_u8]
theorem aSj {k:IntKind} {a b:Int}:ik .lss k a b K=K (.bool (decide (a<b))):=rfl
theorem aSk {k:IntKind} {a b:Int}:ik .leq k a b K=K (.bool (decide (a<=b))):=rfl
theorem aSl {k:IntKind} {a b:Int}:ik .gtr k a b K=K (.bool (decide (a>b))):=rfl
theorem aSm {k:IntKind} {a b:Int}:ik .geq k a b K=K (.bool (decide (a>=b))):=rfl
theorem aSn {k:IntKind} {a b:Int}:ik .eql k a b K=K (.bool (a==b)):=rfl
theorem aSi {k:IntKind} {a b:Int}:ik .neq k a b K=K (.bool (a !=b)):=rfl
theorem aAI {a b:Int}:ik .add .i64 a b K=K (.int .i64 (IntKind.i64.wrap (a+b))):=rfl
theorem aAE {a b:Int}:ik .sub .i64 a b K=K (.int .i64 (IntKind.i64.wrap (a-b))):=rfl
theorem aAH {a b:Int}:ik .mul .i64 a b K=K (.int .i64 (IntKind.i64.wrap (a*b))):=rfl
theorem aSh {k:IntKind} {a b:Int}:ik .quo k a b K=(b≠0/\K (.int k (k.wrap (a.tdiv b)))):=rfl
theorem aSg {k:IntKind} {a b:Int}:ik .rem k a b K=(b≠0/\K (.int k (a.tmod b))):=rfl
theorem aM6 {k:IntKind} {a:Int}:aM7 .i64 (.int k a) K=cM (.int .i64 (IntKind.i64.wrap a)) K:=rfl
def W (x:UInt8):BitVec 32:=x.toBitVec.setWidth 32
theorem aHA (x:UInt8):BitVec.ofInt 8 (x.toNat:Int)=x.toBitVec:=by
 rw [BitVec.ofInt_natCast]
 apply BitVec.eq_of_toNat_eq
 simp
end
def aW7 (id z off len:Nat) (m:List AV) (o:Option AO) (H:List AO) (K:AV->List AO->Prop):Prop :=
 match o with
 | some (.arr z'' l)=>z''=z/\off+len<=l.length/\lA (.int .i64 ((min m.length len:Nat):Int)) (H.set id (.arr z (l.take off++m.take len++l.drop (off+min m.length len)))) K
 | _=>False
def aIH (z:Nat) (d:AV) (m:Option (List AV)) (H:List AO) (K:AV->List AO->Prop):Prop :=
 match d,m with
 | .own id z' off len,some m=>z'=z/\aW7 id z off len m H[id]? H K
 | .aD,some m=>lA (.int .i64 0) H K
 | _,_=>False
def aN2 (id z off len:Nat) (lo hi:Option AV) (o:Option AO) (K:AV->Prop):Prop :=
 match o with
 | some (.arr z' l)=>(z'=z/\0<z)/\dQ hi len fun h=>off+h<=l.length/\dQ lo 0 fun lw=>lw<=h/\cM (.own id z (off+lw) (h-lw)) K
 | _=>False
def aN3 (z:Nat) (x:AV) (lo hi:Option AV) (H:List AO) (K:AV->Prop):Prop :=
 match x with
 | .own id z' off len=>z'=z/\aN2 id z off len lo hi H[id]? K
 | _=>False
def aN6 (id z off len:Nat) (o:Option AO) (H:List AO) (K:AV->List AO->Prop):Prop :=
 match o with
 | some (.arr z' l)=>(z'=z/\0<z/\off+len<=l.length)/\∀ c:Nat,len<=c->l.length<=off+c->lA (.ownx id z off len c) (H.set id (.arr z (l++List.replicate (off+c-l.length) (lZ z)))) K
 | _=>False
def aN7 (x:AV) (H:List AO) (K:AV->List AO->Prop):Prop :=
 match x with
 | .own id z off len=>aN6 id z off len H[id]? H K
 | .aD=>lA .aD H K
 | _=>False
def aQb (z bytes id off len:Nat) (n:Int) (zero:AV) (o:Option AO) (H:List AO) (K:AV->List AO->Prop):Prop :=
 match o with
 | some (.arr z3 l)=>(z3=z/\0<z/\off+len<=l.length)/\((len+n.toNat)*bytes<=2^47/\len+n.toNat<2^63)/\lA (.own H.length z 0 (len+n.toNat)) (H++[.arr z ((l.drop off).take len++List.replicate n.toNat zero)]) K
 | _=>False
def aKm (z bytes:Nat) (zero s x g:AV) (H:List AO) (K:AV->List AO->Prop):Prop :=
 match s,x,g with
 | .own id z1 off len,.int _ n,.ownx id2 z2 off2 _ c=>(z1=z/\z2=z/\id2=id/\zero.el z=true)/\(0<n/\off2+c<off+len+n.toNat)/\aQb z bytes id off len n zero H[id]? H K
 | _,_,_=>False
def qcK (P:Program) (f:FuncId) (args:List AV) (H:List AO) (K:AV->List AO->Prop):Prop:=QC P f args H K
def xcK (P:Program) (f:FuncId) (args:List AV) (H:List AO) (K:AV->List AO->Prop):Prop:=zN P f args H K
section eqs
variable {P:Program} {e:Operand->AV} {H:List AO} {K Kp:AV->List AO->Prop}
theorem aLV {z:Nat} {d s:Operand}:opK P (.cpy z d s) e H K Kp=aIH z (e d) (rdS H z (e s)) H K:=by
 show bQ (.cpy z d s) e H K=_
 simp only [bQ,aIH]
 generalize e d=x
 generalize rdS H z (e s)=m
 cases x<;>cases m<;>rfl
theorem aL7 {z:Nat} {d s:Operand}:opD P (.cpy z d s) e H K=aIH z (e d) (rdS H z (e s)) H K:=by
 show bQ (.cpy z d s) e H K=_
 simp only [bQ,aIH]
 generalize e d=x
 generalize rdS H z (e s)=m
 cases x<;>cases m<;>rfl
theorem aLJ {x:Operand}:opK P (.mvx x) e H K Kp=aN7 (e x) H K:=rfl
theorem aL2 {z b:Nat} {zero:AV} {s x g:Operand}:opK P (.agz z b zero s x g) e H K Kp=aKm z b zero (e s) (e x) (e g) H K:=by
 show aA9 z b zero (e s) (e x) (e g) H K=_
 unfold aA9 aKm
 generalize e s=s1
 generalize e x=x1
 generalize e g=g1
 cases s1<;>cases x1<;>cases g1<;>rfl
theorem aLG {z:Nat} {x:Operand} {lo hi:Option Operand}:opK P (.sle z x lo hi) e H K Kp=aN3 z (e x) (lo.map e) (hi.map e) H fun y=>K y H:=rfl
theorem aLE {f:FuncId} {args:List Operand}:opK P (.xcl f args) e H K Kp=xcK P f (args.map e) H K:=rfl
theorem aHr {f:FuncId} {args:List Operand}:opK P (.calf f args) e H K Kp=qcK P f (args.map e) H K:=rfl
end eqs
section nx
variable {P:Program} {d:Bool} {t:Nat} {l:List aP} {r:bX} {L:St->Prop} {Lp:AV->St->Prop} {H:List AO}
theorem aHC {i z o n c:Nat}:nxt P d t l r L Lp (.ownx i z o n c) H=cF P d l ⟨(t,.ownx i z o n c) :: r,H⟩ L Lp:=rfl
end nx
theorem kZ {d:Nat} {k:IntKind} {i:Int} {K:Nat->Prop}:dQ (some (.int k i)) d K=(0<=i/\K i.toNat):=rfl
theorem aRn {k:IntKind} {a b:Int} {K:AV->Prop}:mmK false k a [.int k b] K=cM (.int k (min a b)) K:=by
 have:(if b<a then b else a)=min a b:=by omega
 simp only [mmK,true_and,Bool.false_eq_true,if_false,this,cM]
theorem aHZ {k:IntKind} {a b:Int} {K:AV->Prop}:mmK true k a [.int k b] K=cM (.int k (max a b)) K:=by
 have:(if b>a then b else a)=max a b:=by omega
 simp only [mmK,true_and,if_true,this,cM]
def mm2:=And.intro @aRn<| @aHZ
def aSr (z:Nat) (x i:AV) (K:AV->Prop):Prop :=
 match x,i with
 | .own id z' off len,.int _ j=>z'=z/\0<=j/\j<len/\cM (.ref id 0 ((off+j.toNat)*z)) K
 | _,_=>False
theorem aLQ {P:Program} {e:Operand->AV} {H:List AO} {K Kp:AV->List AO->Prop} {z:Nat} {x i:Operand}:opK P (.iab z x i) e H K Kp=aSr z (e x) (e i) fun y=>K y H:=rfl
theorem aL5 {P:Program} {e:Operand->AV} {H:List AO} {K:AV->List AO->Prop} {z:Nat} {x i:Operand}:opD P (.iab z x i) e H K=aSr z (e x) (e i) fun y=>K y H:=propext ⟨fun h=>h.2,fun h=>⟨rfl,h⟩⟩
def aYH:=And.intro @aLQ<|And.intro @aL5<|And.intro @aSr.eq_1<|And.intro @aLJ<|And.intro @aL2<|And.intro @aLV<|And.intro @aL7<|And.intro @aLG<|And.intro @aHr<| @aLE
def aUV:=And.intro @aHC<|And.intro @aN6.eq_1<|And.intro @aN7.eq_1<|And.intro @aQb.eq_1<|And.intro @aKm.eq_1<|And.intro @aW7.eq_1<|And.intro @aIH.eq_1<|And.intro @aN2.eq_1<| @aN3.eq_1
theorem ai {a b:Prop} (x:a) (y:b):a/\b:=⟨x,y⟩
def aA:=ai aYH<|ai @aNA<|ai @aS2<|ai @aNz<|ai @aSX<|ai @aS0<|ai @aND<|ai @aJ9<|ai @aNC<|ai @aSZ<|ai @vV<|ai @zX<|ai @aEX<|ai @uL<|ai @zD<|ai @wW<|ai @aA1<|ai @aLD<|ai @aU0<|ai @aQU<|ai @aUZ<|ai @aQS<|ai @aQT<|ai @aQX<|ai @aQ3<|ai @aHk<|ai @aHs<|ai @aLZ<|ai @aL9<|ai @aL0<|ai @aLI<|ai @aLO<|ai @aQV<|ai @aQ1<|ai @aLU<|ai @aLL<|ai @aLH<|ai @aL3<|ai @aLF<|ai @aLS<|ai @aL6<|ai @aLR<|ai @aLP<|ai @aL4<|ai @aLN<|ai @aLT<|ai @aHl<|ai @aHm<|ai @aHt<|ai @aHo<|ai @aQY<|ai @aLY<|ai @aHn<|ai @aQ4<|ai @aLW<|ai @aQZ<|ai @aQ0<|ai @aQW<|ai @aQ2<|ai @aLX<|ai @aL8<|ai @aLK<|ai @aL1<|ai @aMa<|ai @aHp<|ai @aHq<|ai @aSY<|ai @aLM<|ai @aNB<|ai @aLC<| @aLB
def aUU:=ai @aS3<|ai @z9<|ai @aAa<|ai @aY8<|ai @aY9<|ai @aWP<|ai @aWS<|ai @aWQ<|ai @aWR<|ai @aY3<|ai @aMk<|ai @aHE<|ai @aMh<|ai @aHD<|ai @aQ8<|ai @aMj<|ai @aMi<|ai @aQ9<|ai @aMl<|ai @aMg<|ai @aRa<|ai @aHF<|ai @bK<|ai @bE<|ai @aSw<|ai @aSy<|ai @aM4<|ai @aSx<|ai @aM2<|ai @aJ3<|ai @aJ4<|ai @aJ5<|ai @aMR<|ai @aMF<|ai @aMQ<|ai @aMG<| @aJZ
def aB:=ai @aW0<|ai @aW1<|ai @aW2<|ai @aW3<|ai @aW4<|ai @aW5<|ai @aWY<| @aWZ
def aY4:=ai @aQh<|ai @aRk<|ai @aU3<|ai @aFZ<|ai @aAS<|ai @aFX<|ai @aIU<|ai @aAR<|ai @aF0<|ai @aFY<|ai @ok_int<|ai @aMf<|ai @aQ7<|ai @aU1<|ai @aMe<|ai @aMd<|ai @aHw<|ai @aMb<|ai @aQ5<|ai @aHv<| @aMc
def aY2:=ai @aAF<|ai @aAG<|ai @aSj<|ai @aSk<|ai @aSl<|ai @aSm<|ai @aSn<|ai @aSi<|ai @aAI<|ai @aAE<|ai @aAH<|ai @aSh<|ai @aSg<|ai @aM6<|ai @aFx<|ai @aSC<| @aHA
def aYt:=ai @aG0<|ai @aG2<|ai @aQz<|ai @aQA<|ai @aHz<| @aHy
theorem aAq {α β:Type} {f:α->β} {l:List α} {i:Nat}:(l.map f).drop i=(l.drop i).map f:=List.map_drop.symm
theorem aAp {α β:Type} {f:α->β} {l:List α} {i:Nat}:(l.map f).take i=(l.take i).map f:=List.map_take.symm
theorem wD {α β:Type} {f:α->β} {l m:List α}:l.map f++m.map f=(l++m).map f:=List.map_append.symm
def aYL:=(ai @aEG (ai @aNm (ai @List.map_cons.{0,0} (ai @List.map_nil.{0,0} (ai @List.flatMap_cons.{0,0} (ai @List.flatMap_nil.{0,0} (ai @Bool.false_eq_true (ai @Option.map_some.{0,0} (ai @Option.map_none.{0,0} (ai @List.length_nil.{0} (ai @List.length_cons.{0} (ai @List.nil_append.{0} (ai @List.cons_append.{0} (ai @and_true (ai @true_and (ai @or_true (ai @true_or (ai @and_self (ai @List.getElem?_cons_zero.{0} (ai @List.getElem?_cons_succ.{0} (ai @List.set_cons_zero.{0} (ai @List.set_cons_succ.{0} (ai @List.drop_zero.{0} (ai @List.length_map.{0,0} (ai @List.length_append.{0} (ai @Nat.zero_add (ai @Nat.add_zero (ai @Nat.le_refl (ai @decide_true (ai @decide_false (ai @List.all_cons.{0} (ai @List.all_nil.{0} (ai @Bool.and_true (ai @Bool.and_self (ai @Bool.true_and (ai @Bool.not_false (ai @Bool.not_true (ai @beq_self_eq_true.{0} (ai @List.take_length.{0} (ai @List.take_succ_cons.{0} (ai @List.take_zero.{0} (ai @List.take_nil.{0} (ai @List.drop_succ_cons.{0} (ai @List.drop_nil.{0} (ai @Nat.mul_one (ai @List.replicate_succ.{0} (ai @List.replicate_zero.{0} (ai @wrap_i64 (ai @Int.sub_self (ai @Int.sub_zero (ai @Int.toNat_natCast (ai @List.length_drop.{0} (ai @List.length_take.{0} (ai @false_and (ai @and_false (ai @false_or (ai @or_false (ai @not_false_eq_true (ai @not_true_eq_false (ai @forall_const.{0} (ai @List.getD_cons_zero.{0} (ai @List.getD_cons_succ.{0} (ai @bne_self_eq_false.{0} (ai @List.length_replicate.{0} (ai @Int.natCast_one (ai @Int.natCast_zero (ai @Nat.min_self (ai @Nat.sub_self (ai @aAq (ai @aAp @wD))))))))))))))))))))))))))))))))))))))))))))))))))))))))))))))))))))))
theorem aQP {x:AV} {l:List AV} {off n:Nat} {agg:Bool}:partOf (x :: l) (off+1) n agg=partOf l off n agg:=by
 unfold partOf
 simp
theorem aLv {x:AV} {l:List AV}:partOf (x :: l) 0 1 false=x:=rfl
theorem aLu {x:AV} {l:List AV} {n:Nat}:partOf (x :: l) 0 (n+1) true= .agg (x :: l.take n):=rfl
def aYn:=ai @aHg.eq_1<|ai @uM.eq_1<|ai @uM.eq_2<|ai @aX1.eq_1<|ai @slK.eq_1<|ai @slK.eq_2<|ai @dQ.eq_1<|ai @dQ.eq_2<|ai @aUi.eq_1<|ai @aIz.eq_1<|ai @aIz.eq_2<|ai @aIz.eq_3<|ai @aWU.eq_1<|ai @aVb.eq_1<|ai @aWW.eq_1<|ai @aN8.eq_1<|ai @aU8.eq_1<|ai @yO.eq_1<|ai @yO.eq_2<|ai @yO.eq_3<|ai @aP9.eq_2<|ai @aU5.eq_1<|ai @aX0.eq_1<|ai @ldK.eq_1<|ai @ldK.eq_2<|ai @bxK.eq_1<|ai @aQj.eq_1<|ai @aQj.eq_2<|ai @stK.eq_1<|ai @aJ2.eq_1<|ai @aU7.eq_1<|ai @aKk.eq_1<|ai @aJW.eq_1<|ai @sk.eq_1<|ai @sk.eq_2<|ai @sk.eq_3<|ai @sk.eq_4<|ai @sk.eq_5<|ai @hZ.eq_1<|ai @tF.eq_1<|ai @tF.eq_2<|ai @AV.yV.eq_1<|ai @lX.eq_1<|ai @lX.eq_2<|ai @qO.eq_1<|ai @rdS.eq_1<|ai @rdS.eq_2<|ai @rdS.eq_3<|ai @AV.fz1.eq_1<|ai @AV.el.eq_1<|ai @jR.eq_1<| @jR.eq_2
section
variable {k:IntKind} {n:Int} {b t:Bool} {s:List UInt8} {z i j o d w:Nat} {l m e:List AV} {f:Fn} {q:TypeId} {x:AV} {H:List AO}
theorem u1:AV.yV (.int k n)=[]:=rfl
theorem u2:AV.aMP (.int k n)=[]:=rfl
theorem u3:AV.ids (.int k n)=[]:=rfl
theorem u4:AV.fz1 d w e (.int k n)=(.int k n):=rfl
theorem u6:AV.fz d w e (.int k n)=(.int k n):=rfl
theorem u8:hZ H (.int k n)=H:=rfl
theorem u11:AV.ids (.bool b)=[]:=rfl
theorem u14:AV.fz d w e (.bool b)=(.bool b):=rfl
theorem u17:AV.yV (.str s)=[]:=rfl
theorem u19:AV.ids (.str s)=[]:=rfl
theorem u20:AV.fz1 d w e (.str s)=(.str s):=rfl
theorem u22:AV.fz d w e (.str s)=(.str s):=rfl
theorem u35:AV.ids (.aD)=[]:=rfl
theorem u39:x9 (.aD)=true:=rfl
theorem u40:hZ H (.aD)=H:=rfl
theorem u65:AV.yV (.sl t z l)=[]:=rfl
theorem u67:AV.ids (.sl t z l)=[]:=rfl
theorem u68:AV.fz1 d w e (.sl t z l)=(.sl t z l):=rfl
theorem u70:AV.fz d w e (.sl t z l)=(.sl t z l):=rfl
theorem u75:AV.ids (.own i z o j)=[i]:=rfl
theorem u78:AV.fz d w e (.own i z o j)=if i=d/\z=w/\o+j<=e.length then .sl false w ((e.drop o).take j) else (.own i z o j):=rfl
theorem u79:x9 (.own i z o j)=true:=rfl
theorem u83:AV.ids (.ref i j o)=[]:=rfl
theorem u86:AV.fz d w e (.ref i j o)=(.ref i j o):=rfl
theorem u99:AV.ids (.agg l)=l.flatMap AV.yV:=rfl
theorem aYq:AV.fz d w e (.agg l)= .agg (l.map (AV.fz1 d w e)):=rfl
variable {rs:List Nat} {Q R:AV->List AO->Prop} {S:St} {r:Nat->AV}
theorem aYp:aG1 rs Q .ret S=Q (qO rs S.r.get) S.H:=rfl
theorem aYo:qO (i :: j :: rs) r= .tup ((i :: j :: rs).map r):=rfl
end
def aYm:=ai @u1<|ai @u3<|ai @u4<|ai @u6<|ai @u11<|ai @u14<|ai @u17<|ai @u19<|ai @u20<|ai @u22<|ai @u35<|ai @u39<|ai @u40<|ai @u65<|ai @u67<|ai @u68<|ai @u70<|ai @u75<|ai @u78<|ai @u79<|ai @u83<|ai @u86<|ai @u99<|ai @aYq<|ai @aYp<| @aYo
theorem v1:AV.yV .any=[]:=rfl
theorem v2:AV.aMP .any=[]:=rfl
theorem v3:AV.ids .any=[]:=rfl
theorem v5 {d w:Nat} {e:List AV}:AV.fz2 d w e .any= .any:=rfl
theorem v6 {d w:Nat} {e:List AV}:AV.fz d w e .any= .any:=rfl
def aC:=ai aUV<|ai aYn<|ai aYm<|ai @aQP<|ai @aLv<|ai @aLu<|ai aUU<|ai aY2<|ai aY4<|ai aYt<|aYL
section borrow
theorem aW.aIa {P:Program} {aM:Bool} {f:FuncId} {args args':List AV} {H:List AO} {Post:AV->Prop} (h:aW P f args' [] fun y _=>Post y) (ha:Vws aM H args args') (hp:∀ y,Post y->y.low=true/\(aM=true->y.aM=false)) :
 aW P f args H fun y H'=>Post y/\H'=H:=by
 refine ⟨h.1,fun E vs hm hlen hv=>?_⟩
 have hm':HM E (H++[]):=by rw [List.append_nil];exact hm
 have h0:HM (E.sub aM) []:=by cases aM;exact aBu hm;exact aBH hm
 have h1:(E.sub aM).w=E.w:=by cases aM<;>rfl
 have h2:∀ b,¬ (E.sub aM).O b:=by cases aM<;>exact fun _ h=>h
 have key:=h.2 (E.sub aM) vs h0 (by rw [hlen,ha.len]) fun k q hq=>by
  obtain ⟨a,hk,hv'⟩:=ha.get k q hq
  exact hv' [] E _ hm' (by rw [List.append_nil];exact hv k a hk)
 rw [h1] at key
 refine key.mono fun e w' ⟨v,y',H',E',h3,h4,h5,h6,h7,h8⟩=>?_
 obtain ⟨hy,hl⟩:=hp _ h8
 obtain ⟨b1,b2⟩:=aEK hm h1 h2 h6 h7
 refine ⟨v,y',H,E.back E',h3,h4,aEJ h1 h2 h7 h5 hy (fun t b ht hs=>?_),b1,b2,h8,rfl⟩
 cases aM with
 | false=>exact hs
 | true=>exact hs.elim id fun hs=>absurd (ht hs.1) (by rw [hl rfl];simp)
end borrow
theorem a7 {P:Program} {f:FuncId} {args:List AV} {H:List AO} {K:AV->List AO->Prop} {p:AV->Prop} (h:aW P f args [] fun y _=>p y) (ha:args.all AV.low=true) (hp:∀ y,p y->y.low=true) (hk:∀ y,p y->K y H):qcK P f args H K :=
 ⟨p,fun _=>aW.aIa (aM:=false) h (.refl ha) fun y hy=>⟨hp y hy,by simp⟩,hk⟩
theorem bP {P:Program} {f:FuncId} {args:List AV} {H:List AO} {K:AV->List AO->Prop} {y:AV} (h:aT P f args y) (ha:args.all AV.low=true) (hp:y.low=true) (hk:K y H):qcK P f args H K :=
 a7 (p:=fun z=>z=y) h ha (fun _ e=>e ▸ hp) fun _ e=>e ▸ hk
theorem aH {P:Program} {f:FuncId} {args:List AV} {H:List AO} {K Kp:AV->List AO->Prop} {p:AV->Prop} (h:aW P f args [] fun y _=>p y) (ha:args.all AV.low=true) (hp:∀ y,p y->y.low=true) (hk:∀ y,p y->K y H):acK P f args H K Kp :=
 (aW.aIa (aM:=false) h (.refl ha) fun y hy=>⟨hp y hy,by simp⟩).to fun y G ⟨h1,h2⟩=>by subst h2;exact hk y h1
def sZ:List (Option Nat)->Bool
 | []=>true
 | none :: l=>sZ l
 | some k :: l=> !(l.any fun x=>x==some k)&&sZ l
theorem p4:∀ {l:List (Option Nat)},sZ l=true->(l.filterMap fun x=>x).Nodup
 | [],_=>by simp
 | none :: l,h=>by simpa using p4 (l:=l) h
 | some k :: l,h=>by
   unfold sZ at h
   rw [Bool.and_eq_true] at h
   have e:((some k :: l).filterMap fun x=>x)=k :: l.filterMap fun x=>x:=rfl
   rw [e,List.nodup_cons]
   refine ⟨fun hm=>?_,p4 h.2⟩
   obtain ⟨a,ha,e⟩:=List.mem_filterMap.1 hm
   have:(l.any fun x=>x==some k)=true:=List.any_eq_true.2 ⟨a,ha,by rw [show a=some k from e];simp⟩
   rw [this] at h
   simp at h
theorem Sub.of0 {r:bX} {H:List AO} {r1:bX} {H1:List AO} (ρ:List (Option Nat)) (hn:sZ ρ=true)
 (h3:cQ H (names ρ) ρ H1) (h4:H1.all (fun o=>o.bo (names ρ) H1.length)=true) (h5:cV r (names ρ) H1.length r1):Sub 0 ⟨r,H⟩ ⟨r1,H1⟩ :=
 Sub.ofL ρ rfl (Nat.zero_le _) (p4 hn) h3 h4 h5
end Go.Ab
