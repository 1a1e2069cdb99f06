/- A part of a proof: how code is told and stepped through. No condition. -/
import Derived.Test.YtakemdamegfcfaaGreatT2
set_option linter.unusedSimpArgs false
set_option linter.unusedVariables false
namespace Go.Ab
open Go
inductive Cls where
 | light|reader|alloc|writer|call
 deriving DecidableEq
def CO.cls:CO->Cls
 | .ld _ _ _| .cbs _| .s3 _ _ _ _ _=>.reader
 | .bx _| .al _| .bls _ _ _ _| .mks _ _ _ _ _=>.alloc
 | .st _ _ _| .app _ _ _ _| .cpy _ _ _| .apz _ _ _ _ _| .clr _ _ _| .pan _| .sle _ _ _ _| .xcl _ _| .apin _ _ _ _| .mvx _| .agz _ _ _ _ _ _| .sap _ _ _ _| .sbl _ _ _ _| .calf _ _=>.writer
 | .call _ _| .calv _ _=>.call
 | _=>.light
structure aP where
 dst:Option Nat
 op:CO
 guard:Option (Nat×Bool)
 deriving Inhabited
def CO.bare:CO->CO
 | .sle z x lo hi=>.slc z x lo hi
 | .xcl f args=>.call f args
 | .apin z b s x=>.app z b s x
 | .mvx x=>.mv x
 | .agz z b zero s x _=>.apz z b zero s x
 | .iab z x i=>.iad z x i
 | .sap z b s x=>.app z b s x
 | .sbl z len zero ps=>.bls z len zero ps
 | .calf f args=>.call f args
 | c=>c
def aP.bare (o:aP):aP:=⟨o.dst,o.op.bare,o.guard⟩
def CO.gX:CO->CO
 | .apin z b s x=>.app z b s x
 | .iab z x i=>.iad z x i
 | c=>c
def aP.gX (o:aP):aP:=⟨o.dst,o.op.gX,o.guard⟩
inductive OT where
 | fin (l:List aP)
 | pre (l:List aP) (a b:OT)
 deriving Inhabited
inductive CC where
 | skip
 | reg (ops:List aP) (draw:Bool) (frz:List Nat) (keep:Option (List Nat))
 | sch (ops:OT) (drop:List Nat) (frz:List Nat) (keep:Option (List Nat))
 | seq (a b:CC)
 | cond (c:Operand) (t e:CC)
 | block (keep:Option (List Nat)) (id:Nat) (b:CC)
 | loop (g:Nat) (keep:Option (List Nat)) (b:CC)
 | tidy (g:Nat) (b:CC)
 | cat (a b:CC)
 | bad
 | exit (id:Nat)
 | ret
 deriving Inhabited
def CC.ops:CC->Option (List aP)
 | .reg ops false _ _=>some ops
 | .cat a b=>match a.ops,b.ops with
   | some x,some y=>some (x++y)
   | _,_=>none
 | .tidy _ b=>b.ops
 | _=>none
def CC.aHB:Option (List aP)->CC
 | some l=>.reg (l.map aP.bare) false [] none
 | none=>.bad
def CC.bare:CC->CC
 | .reg ops d _ _=>.reg (if d then ops.map aP.gX else ops.map aP.bare) d [] none
 | .sch ops dr _ _=>.sch ops dr [] none
 | .seq a b=>.seq a.bare b.bare
 | .cond c t e=>.cond c t.bare e.bare
 | .block _ id b=>.block none id b.bare
 | .loop _ _ b=>.loop 0 none b.bare
 | .tidy _ b=>b.bare
 | .cat a b=>CC.aHB (CC.cat a b).ops
 | c=>c
def mQ (P:Program) (f:FuncId):Bool :=
 match P.funcs[f]? with
 | some fn=> !(fn.name== "runtime.NumGoroutine")&&fn.body.isSome
 | none=>false
def fB (o:Oper):Option CO :=
 match o.op with
 | .call { callee:=.value (.func f),args,.. }=>some (.call f args.toList)
 | .call { callee:=.value x,args,.. }=>some (.calv x args.toList)
 | _=>none
def jB (P:Program) (o:Oper):Option CO :=
 match cJ P o with
 | some c=>if c.cls= .light then some c else none
 | none=>match eU P o with
   | some c=>if c.cls= .reader∨c.cls= .alloc∨c.cls= .writer then some c else none
   | none=>fB o
def aSE (ops:Array Oper) (o:Oper):Option (Option (Nat×Bool)) :=
 match o.guard with
 | none=>some none
 | some (j,b)=>match (ops[j]?).bind (·.dst) with
   | some d=>some (some (d,b))
   | none=>none
def aFV (P:Program) (ops:Array Oper) (o:Oper):Option aP :=
 match jB P o,aSE ops o with
 | some c,some g=>some ⟨o.dst,c,g⟩
 | _,_=>none
def jS (P:Program) (ops:Array Oper):List Oper->Option (List aP)
 | []=>some []
 | o :: r=>match aFV P ops o,jS P ops r with
   | some c,some l=>some (c :: l)
   | _,_=>none
def aP.looks (o:aP):List Nat :=
 (o.op.ops.filterMap fun| .tmp t=>some t|_=>none)++(match o.guard with|some (g,_)=>[g]|none=>[])
def nB:Cls->Cls->Bool
 | .light,_|_,.light=>true
 | .reader,.reader| .reader,.call| .call,.reader| .call,.call=>true
 | .reader,.alloc| .call,.alloc=>true
 | _,_=>false
def aP.apart (x y:aP):Bool :=
 (match x.dst with
  | some d=> !(y.looks.contains d)&&y.dst !=some d
  | none=>true) &&
 (match y.dst with
  | some d=> !(x.looks.contains d)
  | none=>true)&&nB x.op.cls y.op.cls
def kO (acc:List Nat) (o:Oper):Nat:=o.after.toList.foldl (fun m e=>if Region.binds .any e then m ||| (2^e.on ||| acc.getD e.on 0) else m) 0
def gN:List Oper->List Nat->List Nat
 | [],acc=>acc
 | o :: r,acc=>gN r (acc++[kO acc o])
def rP:List Oper->Nat->Bool
 | [],_=>true
 | o :: r,k=>(o.after.toList.all fun e=> !(Region.binds .any e)||decide (e.on<k))&&rP r (k+1)
def lL:List (aP×Nat)->Nat->Bool
 | [],_=>true
 | o :: r,k=>(r.all fun x=>x.2.testBit k||o.1.apart x.1)&&lL r (k+1)
def aAx (ops:Array Oper) (cl:List aP):Bool:=rP ops.toList 0&&lL (cl.zip (gN ops.toList [])) 0
def aP.kQ (x y:aP):Bool :=
 (match x.dst with
  | some d=> !(y.looks.contains d)&&y.dst !=some d
  | none=>true) &&
 (match y.dst with
  | some d=> !(x.looks.contains d)
  | none=>true)
def eK (o:Oper) (i:Nat):Bool:=o.after.toList.any fun e=>Region.binds .any e&&e.on==i
def lH (p:aP×Oper) (k:Nat):List (aP×Oper)->Nat->Bool
 | [],_=>true
 | q :: r,j=>(eK q.2 k||eK p.2 j||p.1.kQ q.1)&&lH p k r (j+1)
def oO:List (aP×Oper)->Nat->Bool
 | [],_=>true
 | p :: r,k=>lH p k r (k+1)&&oO r (k+1)
def eager (o:aP):Bool :=
 match o.op with
 | .isn _ _ _ _=>false
 | c=>decide (c.cls= .light)
def aVC (m:Bool) (o:aP):Bool :=
 match o.op with
 | .mm q _ _=>q==m
 | _=>false
def steady (cl:List aP) (o:aP):Option aP :=
 match o.op with
 | .ld n agg (.tmp t)=>if (cl.any fun q=>q.dst==some t&&(match q.op with
     | .iad _ _ _=>true
     | _=>false))&& !(cl.any (aVC true)&&cl.any (aVC false)) then some ⟨o.dst,.ldp n agg (.tmp t),o.guard⟩ else none
 | _=>none
def quiet (c:CO):Bool :=
 match c with
 | .ld _ _ _| .calf _ _| .al _| .bx _| .bls _ _ _ _=>true
 | .pan _=>false
 | c=>decide (c.cls= .light)
def s9 (c:CO):Bool :=
 match c with
 | .ld _ _ _=>true
 | _=>false
def sA (ops:Array Oper) (j:Nat):List Nat :=
 (List.range ops.size).foldl (fun D k=>match ops[k]? with
   | some o=>if o.after.toList.any fun e=>Region.binds .any e&&(e.on==j||D.contains e.on) then k :: D else D
   | none=>D) []
def aBN (ops:Array Oper) (cl:List aP) (listed:Array Bool) (j:Nat):Bool :=
 s9 (cl.getD j default).op&&(let D:=sA ops j
  (List.range ops.size).all fun k=>k==j||listed.getD k true||quiet (cl.getD k default).op||D.contains k)
def calm (c:CO):Bool :=
 match c with
 | .calf _ _=>true
 | .pan _=>false
 | c=>decide (c.cls= .light)
def aSe (c:CO):Bool :=
 match c with
 | .al _| .bx _| .bls _ _ _ _=>true
 | _=>false
def aBO (ops:Array Oper) (cl:List aP) (listed:Array Bool) (j:Nat):Bool :=
 aSe (cl.getD j default).op&&(cl.getD j default).guard.isNone&&(let D:=sA ops j
  (List.range ops.size).all fun k=>k==j||listed.getD k true||calm (cl.getD k default).op||D.contains k)
def OT.cons (o:aP):OT->OT
 | .fin l=>.fin (o :: l)
 | .pre l a b=>.pre (o :: l) a b
def aA7:List (Option OT)->Option OT
 | []=>none
 | [t]=>t
 | t :: r=>match t,aA7 r with
   | some a,some b=>some (.pre [] a b)
   | _,_=>none
def sched (ops:Array Oper) (cl:List aP):Nat->Nat->Array Bool->Option OT
 | 0,_,listed=>if Region.ready .any ops listed=[] then some (.fin []) else none
 | fuel+1,bud,listed=>match Region.ready .any ops listed with
   | []=>some (.fin [])
   | i :: r=>if r=[] then (sched ops cl fuel bud (listed.setIfInBounds i true)).map (OT.cons (cl.getD i default))
     else match (i :: r).find? fun i=>eager (cl.getD i default) with
     | some j=>(sched ops cl fuel bud (listed.setIfInBounds j true)).map (OT.cons (cl.getD j default))
     | none=>match (i :: r).find? fun i=>(steady cl (cl.getD i default)).isSome with
        | some j=>(sched ops cl fuel bud (listed.setIfInBounds j true)).map (OT.cons ((steady cl (cl.getD j default)).getD default))
        | none=>match (i :: r).find? fun i=>aBN ops cl listed i with
        | some j=>(sched ops cl fuel bud (listed.setIfInBounds j true)).map (OT.cons (cl.getD j default))
        | none=>match (i :: r).find? fun i=>aBO ops cl listed i with
        | some j=>(sched ops cl fuel bud (listed.setIfInBounds j true)).map (OT.cons (cl.getD j default))
        | none=>match bud with
          | 0=>none
          | bud+1=>aA7 ((i :: r).map fun j=>(sched ops cl fuel bud (listed.setIfInBounds j true)).map (OT.cons (cl.getD j default)))
def OT.inner:OT->List aP
 | .fin l=>l.dropLast
 | .pre l a b=>l++(a.inner++b.inner)
def OT.opers:OT->List aP
 | .fin l=>l
 | .pre l a b=>l++(a.opers++b.opers)
def OT.p7 (t:OT):List Nat:=t.inner.filterMap fun o=>if o.op.cls= .light then o.dst else none
def jK (bud:Nat) (ops:Array Oper) (cl:List aP):Option OT :=
 if oO (cl.zip ops.toList) 0 then match sched ops cl ops.size bud (Array.replicate ops.size false) with
  | some L=>if cl.all fun o=>L.opers.any fun p=>p.dst==o.dst then some L else none
  | none=>none
 else none
def aLz (f:Nat):Bool:=Nat.beq f 203||Nat.beq f 52||Nat.beq f 116||Nat.beq f 118||Nat.beq f 119||Nat.beq f 120
def aP.toF (o:aP):aP :=
 match o.op with
 | .call f args=>if aLz f then o else ⟨o.dst,.calf f args,o.guard⟩
 | _=>o
def OT.ways:OT->Nat
 | .fin _=>1
 | .pre _ a b=>a.ways+b.ways
def pP (ops:Array Oper) (cl:List aP):Option OT :=
 match jK 0 ops cl with
 | some L=>some L
 | none=>match jK 0 ops (cl.map aP.toF) with
   | some L=>some L
   | none=>match jK 5 ops (cl.map aP.toF) with
     | some L'=>match jK 5 ops cl with
       | some L=>if L'.ways<L.ways then some L' else some L
       | none=>some L'
     | none=>jK 5 ops cl
def comp (P:Program):Code->Option CC
 | .skip=>some .skip
 | .region _ ops d=>match jS P ops ops.toList with
   | some l=>if d then (if (l.any fun o=>o.op.cls= .call&&(pP ops l).isSome)=false&&aAx ops l then some (.reg l true [] none) else match pP ops l with
      | some L=>some (.sch L L.p7 [] none)
      | none=>none) else some (.reg l false [] none)
   | none=>none
 | .seq a b=>match comp P a,comp P b with
   | some x,some y=>some (.seq x y)
   | _,_=>none
 | .cond c t e=>match comp P t,comp P e with
   | some x,some y=>some (.cond c x y)
   | _,_=>none
 | .block id b=>match comp P b with
   | some x=>some (.block none id x)
   | none=>none
 | .loop b=>match comp P b with
   | some x=>some (.loop 0 none x)
   | none=>none
 | .exit id=>some (.exit id)
 | .ret=>some .ret
 | _=>none
def CC.fits (N:Nat):CC->Bool
 | .reg ops _ _ _=>ops.all fun o=>match o.dst with|some d=>decide (d<N)|none=>true
 | .sch ops _ _ _=>ops.opers.all fun o=>match o.dst with|some d=>decide (d<N)|none=>true
 | .seq a b=>a.fits N&&b.fits N
 | .cond _ t e=>t.fits N&&e.fits N
 | .block _ _ b=>b.fits N
 | .loop _ _ b=>b.fits N
 | .tidy _ b=>b.fits N
 | .cat a b=>a.fits N&&b.fits N
 | _=>true
def CC.base (m:Nat):CC->Bool
 | .seq a b=>a.base m&&b.base m
 | .cond _ t e=>t.base m&&e.base m
 | .block _ _ b=>b.base m
 | .loop g _ b=>decide (m<=g)&&b.base m
 | .tidy g b=>decide (m<=g)&&b.base m
 | .cat a b=>a.base m&&b.base m
 | _=>true
theorem CC.eJ:∀ c:CC,c.base 0=true
 | .skip=>rfl
 | .reg _ _ _ _=>rfl
 | .sch _ _ _ _=>rfl
 | .seq a b=>by simp [CC.base,CC.eJ a,CC.eJ b]
 | .cond _ t e=>by simp [CC.base,CC.eJ t,CC.eJ e]
 | .block _ _ b=>by simp [CC.base,CC.eJ b]
 | .loop _ _ b=>by simp [CC.base,CC.eJ b]
 | .tidy _ b=>by simp [CC.base,CC.eJ b]
 | .cat a b=>by simp [CC.base,CC.eJ a,CC.eJ b]
 | .bad=>rfl
 | .exit _=>rfl
 | .ret=>rfl
structure St where
 r:bX
 H:List AO
def bX.put (r:bX) (d:Option Nat) (y:AV):bX :=
 match d with
 | some t=>(t,y) :: r
 | none=>r
def aW (P:Program) (f:FuncId) (args:List AV) (H:List AO) (Post:AV->List AO->Prop):Prop :=
 mQ P f=true/\∀ (E:Env) (vs:List Value),HM E H->vs.length=args.length->(∀ k y,args[k]?=some y->E.VR H.length (vs.getD k undef) y) ->
  Calls P f vs.toArray E.w fun e w'=>∃ v y H' E',e= .returned v/\E'.w=w'/\E'.VR H'.length v y/\HM E' H'/\Trans E H.length E' H'.length/\Post y H'
def dK (P:Program) (f:FuncId) (args:List AV) (H:List AO) (Post PP:AV->List AO->Prop):Prop :=
 mQ P f=true/\∀ (E:Env) (vs:List Value),HM E H->vs.length=args.length->(∀ k y,args[k]?=some y->E.VR H.length (vs.getD k undef) y) ->
  Calls P f vs.toArray E.w fun e w'=>(∃ v y H' E',e= .returned v/\E'.w=w'/\E'.VR H'.length v y/\HM E' H'/\Trans E H.length E' H'.length/\Post y H') ∨
   (∃ v x H' E',e= .panicked [⟨v,false,false⟩]/\E'.w=w'/\E'.VR H'.length v x/\HM E' H'/\Trans E H.length E' H'.length/\PP x H')
theorem aW.to {P:Program} {f:FuncId} {args:List AV} {H:List AO} {Post K PP:AV->List AO->Prop} (h:aW P f args H Post) (hk:∀ y G,Post y G->K y G):dK P f args H K PP :=
 ⟨h.1,fun E vs hm hl hv=>(h.2 E vs hm hl hv).mono fun e w' ⟨v,y,H',E',h1,h2,h3,h4,h5,h6⟩=>.inl ⟨v,y,H',E',h1,h2,h3,h4,h5,hk _ _ h6⟩⟩
def aI (P:Program) (f:FuncId) (args:List AV) (H:List AO) (y:AV):Prop:=∀ G,aW P f args (H++G) fun r H'=>r=y/\H'=H++G
def iO (e:Operand->AV) (c:CO) (K:FuncId->List AV->Prop):Prop :=
 match c with
 | .call f args=>K f (args.map e)
 | .calv x args=>match e x with
   | .fn (.func f) first cap=>K f (first++args.map e++cap)
   | _=>False
 | _=>False
def lZ (z:Nat):AV:=if z=1 then .any else .agg (List.replicate z .any)
def aRm (id z off len:Nat) (o:Option AO) (H:List AO) (K:AV->List AO->Prop):Prop :=
 match o with
 | some (.arr z' l)=>(z'=z/\0<z/\off+len<=l.length)/\∀ c:Nat,len<=c->l.length<=off+c->K (.ownx id z off len c) (H.set id (.arr z (l++List.replicate (off+c-l.length) (lZ z))))
 | _=>False
def aHW (x:AV) (H:List AO) (K:AV->List AO->Prop):Prop :=
 match x with
 | .own id z off len=>aRm id z off len H[id]? H K
 | .aD=>K .aD H
 | _=>False
def aQo (id z off len:Nat) (lo hi:Option AV) (o:Option AO) (K:AV->Prop):Prop :=
 match o with
 | some (.arr z' l)=>(z'=z/\0<z)/\dQ hi len fun h=>off+h<=l.length/\dQ lo 0 fun lw=>lw<=h/\K (.own id z (off+lw) (h-lw))
 | _=>False
def aGK (z:Nat) (x:AV) (lo hi:Option AV) (H:List AO) (K:AV->Prop):Prop :=
 match x with
 | .own id z' off len=>z'=z/\aQo id z off len lo hi H[id]? K
 | _=>False
def zN (P:Program) (f:FuncId) (args:List AV) (H:List AO) (K:AV->List AO->Prop):Prop :=
 ∀ (E:Env) (vs:List Value),HM E H->vs.length=args.length->(∀ k y,args[k]?=some y->E.VR H.length (vs.getD k undef) y) ->
   ∃ v y E' H',(callFunc f vs.toArray).run P E.w= .ok (.value v) E'.w/\E'.VR H'.length v y/\HM E' H'/\Trans E H.length E' H'.length/\K y H'
def nU (P:Program) (c:CO) (e:Operand->AV) (H:List AO) (K:AV->List AO->Prop):Prop :=
 ∀ (o:Oper) (E:Env) (a:Act),jB P o=some c->HM E H->(∀ x∈c.ops,E.VR H.length (a.eval x) (e x))->WS P E H a o K
def QC (P:Program) (f:FuncId) (args:List AV) (H:List AO) (K:AV->List AO->Prop):Prop :=
 ∃ p:AV->Prop,(∀ G,aW P f args G fun r H'=>p r/\H'=G)/\∀ y,p y->K y H
def spK (P:Program) (c:CO) (e:Operand->AV) (H:List AO) (K:AV->List AO->Prop):Prop :=
 match c with
 | .sle z x lo hi=>aGK z (e x) (lo.map e) (hi.map e) H fun y=>K y H
 | .xcl f args=>zN P f (args.map e) H K
 | .apin z b s x=>bQ (.apin z b s x) e H K
 | .mvx x=>aHW (e x) H K
 | .agz z b zero s x g=>aA9 z b zero (e s) (e x) (e g) H K
 | .iab z x i=>bH (.iab z x i) e fun y=>K y H
 | .sap z b s x=>nU P (.app z b s x) e H K
 | .sbl z len zero ps=>nU P (.bls z len zero ps) e H K
 | .calf f args=>QC P f (args.map e) H K
 | _=>False
def CO.sp:CO->Bool
 | .sle _ _ _ _| .xcl _ _| .apin _ _ _ _| .mvx _| .agz _ _ _ _ _ _| .iab _ _ _| .sap _ _ _ _| .sbl _ _ _ _| .calf _ _=>true
 | _=>false
def oS (P:Program) (c:CO) (e:Operand->AV) (H:List AO) (K Kp:AV->List AO->Prop):Prop :=
 match c with
 | .pan x=>match e x with
   | .ifc t y=>Kp (.ifc t y) H
   | _=>False
 | _=>match c.cls with
   | .light=>bH c e fun y=>K y H
   | .reader=>cP c e H fun y=>K y H
   | .alloc| .writer=>bQ c e H K
   | .call=>iO e c fun f args=>dK P f args H K Kp
def opK (P:Program) (c:CO) (e:Operand->AV) (H:List AO) (K Kp:AV->List AO->Prop):Prop :=
 match c with
 | .sle z x lo hi=>aGK z (e x) (lo.map e) (hi.map e) H fun y=>K y H
 | .xcl f args=>zN P f (args.map e) H K
 | .apin z b s x=>bQ (.apin z b s x) e H K
 | .mvx x=>aHW (e x) H K
 | .agz z b zero s x g=>aA9 z b zero (e s) (e x) (e g) H K
 | .iab z x i=>bH (.iab z x i) e fun y=>K y H
 | .sap z b s x=>nU P (.app z b s x) e H K
 | .sbl z len zero ps=>nU P (.bls z len zero ps) e H K
 | .calf f args=>QC P f (args.map e) H K
 | c=>oS P c e H K Kp
theorem kT {P:Program} {c:CO} {e:Operand->AV} {H:List AO} {K Kp:AV->List AO->Prop} (h:c.sp=false):opK P c e H K Kp=oS P c e H K Kp:=by
 cases c<;>first|rfl|simp [CO.sp] at h
theorem aAf {P:Program} {c:CO} {e:Operand->AV} {H:List AO} {K Kp:AV->List AO->Prop} (h:c.sp=true):opK P c e H K Kp=spK P c e H K:=by
 cases c<;>first|rfl|simp [CO.sp] at h
theorem n8 {c:CO} (h:c.sp=false):c.bare=c:=by
 cases c<;>first|rfl|simp [CO.sp] at h
def opD (P:Program) (c:CO) (e:Operand->AV) (H:List AO) (K:AV->List AO->Prop):Prop :=
 match c.cls with
 | .light=>det c e=true/\bH c e fun y=>K y H
 | .reader=>cP c e H fun y=>K y H
 | .alloc| .writer=>bQ c e H K
 | .call=>iO e c fun f args=>∃ y,aI P f args H y/\K y H
def cZ (g:Option (Nat×Bool)) (r:Nat->AV) (X Y:Prop):Prop :=
 match g with
 | none=>X
 | some (t,want)=>match r t with
   | .bool b=>if b=want then X else Y
   | .tup []=>Y
   | _=>False
def cF (P:Program) (draw:Bool):List aP->St->(St->Prop)->(AV->St->Prop)->Prop
 | [],s,K,_=>K s
 | o :: l,s,K,Kp=>cZ o.guard s.r.get
     (if draw then opD P o.op (ev s.r.get) s.H fun y H'=>cF P draw l ⟨s.r.put o.dst y,H'⟩ K Kp
      else opK P o.op (ev s.r.get) s.H (fun y H'=>cF P draw l ⟨s.r.put o.dst y,H'⟩ K Kp) fun x H'=>Kp x ⟨s.r,H'⟩)
     (cF P draw l ⟨s.r.put o.dst (.tup []),s.H⟩ K Kp)
def dM (keep:Option (List Nat)) (s:St):St :=
 match keep with
 | none=>s
 | some l=>⟨l.map fun t=>(t,s.r.get t),s.H⟩
def AV.fz1 (id z:Nat) (l:List AV):AV->AV
 | .own i z' off len=>if i=id/\z'=z/\off+len<=l.length then .sl false z ((l.drop off).take len) else .own i z' off len
 | y=>y
def AV.fz2 (id z:Nat) (l:List AV):AV->AV
 | .agg cs=>.agg (cs.map (AV.fz1 id z l))
 | y=>y.fz1 id z l
def AV.fz (id z:Nat) (l:List AV):AV->AV
 | .tup vs=>.tup (vs.map (AV.fz2 id z l))
 | y=>y.fz2 id z l
def AV.yV:AV->List Nat
 | .own id _ _ _=>[id]
 | _=>[]
def AV.aMP:AV->List Nat
 | .agg cs=>cs.flatMap AV.yV
 | y=>y.yV
def AV.ids:AV->List Nat
 | .tup vs=>vs.flatMap AV.aMP
 | y=>y.aMP
def tF:List Nat->St->(St->Prop)->Prop
 | [],s,K=>K s
 | id :: ts,s,K=>match s.H[id]? with
    | some (.arr z l)=>tF ts ⟨s.r.map fun p=>(p.1,p.2.fz id z l),s.H.set id .dead⟩ K
    | _=>tF ts s K
def y2 (l:List Nat) (s:St) (K:St->Prop):Prop:=tF (l.flatMap fun t=>(s.r.get t).ids) s K
inductive AE where
 | normal
 | exit (id:Nat)
 | ret
 | pan (x:AV)
def iT (K:St->Prop) (Q:AE->St->Prop):AE->St->Prop
 | .normal,s=>K s
 | e,s=>Q e s
def kI (keep:Option (List Nat)) (id:Nat) (Q:AE->St->Prop):AE->St->Prop
 | .normal,s=>Q .normal (dM keep s)
 | .exit i,s=>if i=id then Q .normal (dM keep s) else Q (.exit i) s
 | e,s=>Q e s
def wk0 (r y:AV):Prop:=r=y∨(r= .aD/\∃ t z,y= .sl t z [])
theorem bL (a:AV):wk0 a a=True:=eq_true (.inl rfl)
theorem bM (t:Bool) (z:Nat):wk0 .aD (.sl t z [])=True:=eq_true (.inr ⟨rfl,t,z,rfl⟩)
def aBe (g:Nat) (s s1:St):Prop:=∀ (E:Env) (m0:Nat),m0<=g->m0<=s.H.length->HM E s.H ->
 ∃ E1:Env,E1.w=E.w/\HM E1 s1.H/\(∀ q x,E.VR s.H.length x (s.r.get q)->E1.VR s1.H.length x (s1.r.get q))/\Trans E m0 E1 s1.H.length
def Sub (g:Nat) (s s1:St):Prop :=
 s1=s∨(∃ ρ:Nat->Option Nat,(∀ i,i<g->ρ i=some i)/\g<=s1.H.length/\Part ρ s.H s1.H/\∀ p∈s1.r,wk0 (s.r.get p.1) (p.2.ro ρ)/\p.2.bo ρ s1.H.length=true)∨aBe g s s1
def qY (D:List Nat):bX->bX
 | []=>[]
 | p :: r=>if D.contains p.1 then qY D r else p :: qY D r
theorem vJ (D:List Nat):∀ (r:bX) (q:Nat),(qY D r).get q=if D.contains q then .top else r.get q
 | [],q=>by
   show AV.top=_
   split<;>rfl
 | p :: r,q=>by
   have ih:=vJ D r q
   unfold qY
   by_cases hp:D.contains p.1=true
   · rw [if_pos hp,ih]
     by_cases hq:D.contains q=true
     · rw [if_pos hq,if_pos hq]
     · have:p.1≠q:=fun e=>hq (e ▸ hp)
       rw [if_neg hq,if_neg hq]
       show _=(if p.1=q then p.2 else bX.get r q)
       rw [if_neg this]
   · rw [if_neg hp]
     show (if p.1=q then p.2 else (qY D r).get q)=_
     by_cases hpq:p.1=q
     · subst hpq
       rw [if_pos rfl,if_neg hp]
       show p.2=(if p.1=p.1 then p.2 else bX.get r p.1)
       rw [if_pos rfl]
     · rw [if_neg hpq,ih]
       show _=if D.contains q=true then AV.top else (if p.1=q then p.2 else bX.get r q)
       rw [if_neg hpq]
def otK (P:Program):OT->St->(St->Prop)->(AV->St->Prop)->Prop
 | .fin l,s,K,Kp=>cF P false l s K Kp
 | .pre l a b,s,K,Kp=>cF P false l s (fun s'=>otK P a s' K Kp/\otK P b s' K Kp) Kp
def aw (P:Program):CC->(AE->St->Prop)->St->Prop
 | .skip,Q,s=>Q .normal s
 | .reg ops d frz keep,Q,s=>cF P d ops s (fun s'=>y2 frz s' fun s''=>Q .normal (dM keep s'')) fun x s'=>Q (.pan x) s'
 | .sch ops dr frz keep,Q,s=>otK P ops s (fun s'=>y2 frz s' fun s''=>Q .normal (dM keep s'')) fun x s'=>Q (.pan x) ⟨qY dr s'.r,s'.H⟩
 | .seq a b,Q,s=>aw P a (iT (fun s'=>aw P b Q s') Q) s
 | .cond c t e,Q,s=>match ev s.r.get c with
   | .bool b=>if b=true then aw P t Q s else aw P e Q s
   | _=>False
 | .block keep id b,Q,s=>aw P b (kI keep id Q) s
 | .loop g keep b,Q,s=>∃ I:Nat->St->Prop,(∃ n s1,Sub g (dM keep s) s1/\I n s1)/\∀ n s',I n s'->aw P b (iT (fun s''=>∃ m s1,m<n/\Sub g (dM keep s'') s1/\I m s1) Q) s'
 | .tidy g b,Q,s=>aw P b (iT (fun s'=>∃ s1,Sub g s' s1/\Q .normal s1) Q) s
 | .cat a b,Q,s=>aw P a (iT (fun s'=>aw P b Q s') Q) s
 | .bad,_,_=>False
 | .exit id,Q,s=>Q (.exit id) s
 | .ret,Q,s=>Q .ret s
def bT (r:Nat->AV) (d:Option Nat) (y:AV):Nat->AV :=
 match d with
 | some t=>fun q=>if t=q then y else r q
 | none=>r
theorem nC (r:bX) (d:Option Nat) (y:AV):(r.put d y).get=bT r.get d y:=by
 funext q
 cases d<;>rfl
structure Fix where
 n:Nat
 ds:List Deferred
structure Match (N:Fix) (E:Env) (r:Nat->AV) (H:List AO) (a:Act):Prop where
 hm:HM E H
 regs:∀ t,E.VR H.length (a.tmps.getD t undef) (r t)
 size:a.tmps.size=N.n
 defers:a.defers=N.ds
section sound
variable {P:Program} {N:Fix} {E:Env} {a:Act} {r:Nat->AV} {H:List AO}
theorem Match.ev {x:Operand} (m:Match N E r H a):E.VR H.length (a.eval x) (Ab.ev r x):=by
 cases x with
 | tmp t=>exact m.regs t
 | const v=>exact aQf v
 | global g=>exact .top
 | func f=>exact .fn (as:=[]) (bs:=[]) rfl rfl (fun k y h=>by simp at h) (fun k y h=>by simp at h)
theorem Match.put {n:Nat} {E':Env} {H':List AO} {v:Value} {y:AV} {d:Option Nat} (m:Match N E r H a) (hd:∀ t,d=some t->t<N.n) (hm:HM E' H') (t:Trans E H.length E' H'.length) (hv:E'.VR H'.length v y) :
 Match N E' (bT r d y) H' (a.put d v):=by
 refine ⟨hm,fun q=>?_,?_,?_⟩
 · cases d with
   | none=>exact (m.regs q).trans m.hm t
   | some p =>
     have hp:=hd p rfl
     rw [<- m.size] at hp
     simp only [bT,Act.put]
     by_cases h:p=q
     · subst h
       rw [if_pos rfl]
       have:(a.tmps.setIfInBounds p v).getD p undef=v:=by simp [Array.getD,hp]
       rw [this]
       exact hv
     · rw [if_neg h]
       have:(a.tmps.setIfInBounds p v).getD q undef=a.tmps.getD q undef:=by
        rw [Array.getD_eq_getD_getElem?,Array.getD_eq_getD_getElem?,Array.getElem?_setIfInBounds_ne h]
       rw [this]
       exact (m.regs q).trans m.hm t
 · cases d<;>simp [Act.put,m.size]
 · cases d<;>simp [Act.put,m.defers]
theorem q0 {f:FuncId} (h:mQ P f=true) (args:Array Value) (w:World):(callFunc f args).run P w= .ok (.enter f args) w:=by
 unfold mQ at h
 split at h
 · rename_i fn hf
   simp only [Bool.and_eq_true,Bool.not_eq_true'] at h
   have h2:fn.body.isNone=false:=by
    cases hb:fn.body with
    | none=>rw [hb] at h;simp at h
    | some b=>rfl
   simp only [callFunc,Sem.run_bind,run_program,Result.andThen_ok,hf,h.1,h2,Bool.false_eq_true,if_false,Sem.run_pure]
 · cases h
theorem aF4 {o:Oper} {c:CO} (hc:fB o=some c) (m:Match N E r H a) {K:FuncId->List AV->Prop} (hk:∀ f args,K f args->mQ P f=true) (h:iO (Ab.ev r) c K) :
 ∃ (f:FuncId) (args:List AV) (vs:List Value),K f args/\(execOp a.eval o).run P E.w= .ok (.enter f vs.toArray) E.w/\vs.length=args.length/\∀ k y,args[k]?=some y->E.VR H.length (vs.getD k undef) y:=by
 unfold fB at hc
 split at hc
 · rename_i f args ts ho
   cases hc
   simp only [iO] at h
   refine ⟨f,_,args.toList.map a.eval,h,?_,by simp,iL (fun x=>m.ev) _⟩
   have hok:=hk _ _ h
   simp only [execOp,ho,resolve,Act.eval,Deferred.ofValue,pure_bind,invoke]
   rw [q0 hok]
   congr 2
   apply Array.ext'
   simp
 · rename_i x args ts hnf ho
   cases hc
   simp only [iO] at h
   split at h
   · rename_i f first cap heq
     have hx:=m.ev (x:=x)
     rw [heq] at hx
     obtain ⟨as,bs,hv,hl1,hl2,hv1,hv2⟩:=hx.aIx
     have hok:=hk _ _ h
     refine ⟨f,_,as++args.toList.map a.eval++bs,h,?_,by simp [hl1,hl2],fun k y hk'=>?_⟩
     · simp only [execOp,ho,resolve,hv,Deferred.ofValue,pure_bind,invoke]
       rw [q0 hok]
       congr 2
       apply Array.ext'
       simp
     · have hvm:=iL (E:=E) (n:=H.length) (a:=a) (e:=Ab.ev r) (fun x=>m.ev) args.toList
       have hsz:args.toList.length=args.size:=by simp
       by_cases h1:k<first.length
       · rw [List.append_assoc,List.getElem?_append_left h1] at hk'
         rw [List.getD_eq_getElem?_getD,List.append_assoc,List.getElem?_append_left (by omega),<- List.getD_eq_getElem?_getD]
         exact hv1 k y hk'
       · by_cases h2:k<first.length+args.toList.length
         · rw [List.append_assoc,List.getElem?_append_right (by omega),List.getElem?_append_left (by simp;omega)] at hk'
           rw [List.getD_eq_getElem?_getD,List.append_assoc,List.getElem?_append_right (by omega),List.getElem?_append_left (by simp;omega),hl1,<- List.getD_eq_getElem?_getD]
           exact hvm _ y hk'
         · rw [List.append_assoc,List.getElem?_append_right (by omega),List.getElem?_append_right (by simp;omega),List.length_map] at hk'
           rw [List.getD_eq_getElem?_getD,List.append_assoc,List.getElem?_append_right (by omega),List.getElem?_append_right (by simp;omega),List.length_map,hl1,<- List.getD_eq_getElem?_getD]
           exact hv2 _ y hk'
   · exact h.elim
 · cases hc
theorem aBF {o:Oper} {K:AV->Prop} (h:LS P E H.length a o K) (m:Match N E r H a) (hd:∀ t,o.dst=some t->t<N.n) {next:Act->World->Prop} {Q:Exit->Act->World->Prop}
 (hn:∀ a' y,Match N E (bT r o.dst y) H a'->K y->next a' E.w):o.wp P a E.w next Q:=by
 obtain ⟨v,y,hr,hv,hk⟩:=h
 unfold Oper.wp
 rw [hr]
 exact hn _ y (m.put (n:=0) hd m.hm (Trans.refl _ _) hv) hk
theorem r0 {o:Oper} {K:AV->List AO->Prop} (h:WS P E H a o K) (m:Match N E r H a) (hd:∀ t,o.dst=some t->t<N.n) {next:Act->World->Prop} {Q:Exit->Act->World->Prop}
 (hn:∀ a' E' y H',Match N E' (bT r o.dst y) H' a'->Trans E H.length E' H'.length->K y H'->next a' E'.w):o.wp P a E.w next Q:=by
 obtain ⟨v,y,E',H',hr,hv,hm,ht,hk⟩:=h
 unfold Oper.wp
 have hput:=hn _ E' y H' (m.put (n:=0) hd hm ht hv) ht hk
 rcases hr with hr|⟨hr,rfl⟩
 · rw [hr];exact hput
 · rw [hr];exact hput
theorem xI {o:Oper} {c:CO} (hc:eU P o=some c) (m:Match N E r H a) :
 (∀ {K:AV->Prop},cP c (Ab.ev r) H K->LS P E H.length a o K)/\(∀ {K:AV->List AO->Prop},bQ c (Ab.ev r) H K->WS P E H a o K):=by
 have he:∀ x,E.VR H.length (a.eval x) (Ab.ev r x):=fun x=>m.ev
 unfold eU at hc
 split at hc
 · rename_i t x ho
   split at hc
   · rename_i hcond
     simp only [Bool.and_eq_true] at hcond
     cases hc
     exact ⟨fun h=>aK6 ho hcond.1 hcond.2 m.hm he h,fun h=>h.elim⟩
   · cases hc
 · rename_i t x v ho
   split at hc
   · rename_i hcond
     split at hc
     · rename_i h0
       cases hc
       exact ⟨fun h=>h.elim,fun h=>aGm ho hcond h0 m.hm he h⟩
     · cases hc
   · cases hc
 · rename_i t ho
   split at hc
   · rename_i zs hz
     cases hc
     exact ⟨fun h=>h.elim,fun h=>aGo ho hz m.hm h⟩
   · cases hc
 · rename_i t x ho
   cases hc
   exact ⟨fun h=>h.elim,fun h=>aGn ho m.hm he h⟩
 · rename_i x ho
   cases hc
   exact ⟨fun h=>h.elim,fun h=>h.elim⟩
 · rename_i t len parts ho
   split at hc
   · rename_i el ht
     split at hc
     · rename_i z hz
       split at hc
       · rename_i hi
         cases hc
         exact ⟨fun h=>h.elim,fun h=>aER ho ht hz hi m.hm he h⟩
       · cases hc
     · cases hc
   · cases hc
 · rename_i t l c ho
   split at hc
   · rename_i el ht
     split at hc
     · rename_i z hz
       split at hc
       · rename_i hi
         cases hc
         exact ⟨fun h=>h.elim,fun h=>aEO ho ht hz hi m.hm he h⟩
       · cases hc
     · cases hc
   · cases hc
 · rename_i s' d x ho
   split at hc
   · rename_i el h1 h2
     split at hc
     · rename_i h3
       cases hc
       exact ⟨fun h=>aG6 ho h1 h2 h3 m.hm he h,fun h=>h.elim⟩
     · cases hc
   · cases hc
 · rename_i args ts ho
   split at hc
   · rename_i s' x t t2 ha hts
     split at hc
     · rename_i el el2 ht ht2
       split at hc
       · rename_i hcond
         simp only [Bool.and_eq_true,decide_eq_true_eq] at hcond
         cases hc
         exact ⟨fun h=>h.elim,fun h=>aET ho ha hts ht ht2 hcond.1 hcond.2 m.hm he h⟩
       · cases hc
     · rename_i el kk ht ht2
       split at hc
       · rename_i z hz
         split at hc
         · rename_i hcond
           simp only [Bool.and_eq_true,decide_eq_true_eq] at hcond
           cases hc
           exact ⟨fun h=>h.elim,fun h=>aES ho ha hts ht ht2 hz hcond.1 m.hm he h⟩
         · cases hc
       · cases hc
     · cases hc
   · cases hc
 · rename_i args ts ho
   split at hc
   · rename_i d s' t t2 ha hts
     split at hc
     · rename_i el ht
       split at hc
       · rename_i hi
         cases hc
         exact ⟨fun h=>h.elim,fun h=>aEP ho ha hts ht hi m.hm he h⟩
       · cases hc
     · cases hc
   · cases hc
 · rename_i t x lo hi mx ho
   split at hc
   · rename_i el ht
     split at hc
     · rename_i hh
       split at hc
       · rename_i hi
         cases hc
         exact ⟨fun h=>aK5 ho ht hi m.hm he h,fun h=>h.elim⟩
       · cases hc
     · cases hc
   · cases hc
 · rename_i args ts ho
   split at hc
   · rename_i x t ha hts
     split at hc
     · rename_i el ht
       split at hc
       · rename_i z hz
         split at hc
         · rename_i hi
           cases hc
           exact ⟨fun h=>h.elim,fun h=>aEQ ho ha hts ht hz hi m.hm he h⟩
         · cases hc
       · cases hc
     · cases hc
   · cases hc
 · cases hc
theorem aLx {o:Oper} {x:Operand} (hc:eU P o=some (.pan x)):execOp a.eval o=(do pure (.value (<- Instr.panic (a.eval x)))):=by
 have key:o.op= .panic x:=by
  unfold eU at hc
  split at hc
  case h_5 y ho =>
   simp only [Option.some.injEq,CO.pan.injEq] at hc
   subst hc
   exact ho
  all_goals (exfalso;revert hc;(repeat' split)<;>simp)
 simp only [execOp,key]
theorem uZ {o:Oper} {c:CO} (hc:jB P o=some c) (m:Match N E r H a) (hd:∀ t,o.dst=some t->t<N.n) {K Kp:AV->List AO->Prop} (h:oS P c (Ab.ev r) H K Kp) {next:Act->World->Prop} {Q:Exit->Act->World->Prop}
 (hn:∀ a' E' y H',Match N E' (bT r o.dst y) H' a'->Trans E H.length E' H'.length->K y H'->next a' E'.w)
 (hp:∀ E' v x H',Match N E' r H' a->Trans E H.length E' H'.length->E'.VR H'.length v x->Kp x H'->Q (.panic [⟨v,false,false⟩]) a E'.w):o.wp P a E.w next Q:=by
 have he:∀ x,E.VR H.length (a.eval x) (Ab.ev r x):=fun x=>m.ev
 by_cases hpan:∃ x,c= .pan x
 · obtain ⟨x,rfl⟩:=hpan
   simp only [oS] at h
   unfold jB at hc
   split at hc
   · rename_i c' hc'
     split at hc
     · rename_i hcl;cases hc;simp [CO.cls] at hcl
     · cases hc
   · split at hc
     · rename_i c' hc'
       split at hc
       · cases hc
         have hx:=he x
         split at h
         · rename_i t y heq
           rw [heq] at hx
           unfold Oper.wp
           rw [aLx hc']
           generalize a.eval x=u at hx ⊢
           cases hx with
           | ifc hv=>exact hp E _ _ H m (Trans.refl _ _) (.ifc hv) h
         · exact h.elim
       · cases hc
     · unfold fB at hc
       split at hc<;>cases hc
 have hK:match c.cls with
  | .light=>bH c (Ab.ev r) fun y=>K y H
  | .reader=>cP c (Ab.ev r) H fun y=>K y H
  | .alloc| .writer=>bQ c (Ab.ev r) H K
  | .call=>iO (Ab.ev r) c fun f args=>dK P f args H K Kp:=by
  unfold oS at h
  split at h
  · rename_i x;exact absurd ⟨x,rfl⟩ hpan
  · exact h
 clear h
 have h:=hK
 unfold jB at hc
 split at hc
 · rename_i c' hc'
   split at hc
   · rename_i hcl
     cases hc
     simp only [hcl] at h
     exact aBF (qT hc' he h) m hd fun a' y hm hk=>hn a' E y H hm (Trans.refl _ _) hk
   · cases hc
 · split at hc
   · rename_i c' hc'
     split at hc
     · rename_i hcl
       cases hc
       obtain ⟨h1,h2⟩:=xI hc' m
       rcases hcl with hcl|hcl|hcl<;>simp only [hcl] at h
       · exact aBF (h1 h) m hd fun a' y hm hk=>hn a' E y H hm (Trans.refl _ _) hk
       · exact r0 (h2 h) m hd hn
       · exact r0 (h2 h) m hd hn
     · cases hc
   · have hcl:c.cls= .call:=by
      unfold fB at hc
      split at hc<;>first|(cases hc;rfl)|cases hc
     simp only [hcl] at h
     obtain ⟨f,args,vs,hA,hr,hl,hv⟩:=aF4 hc m (fun f args h=>h.1) h
     unfold Oper.wp
     rw [hr,Oper.upon_enter]
     refine (hA.2 E vs m.hm hl hv).mono fun e w' he'=>?_
     rcases he' with ⟨v,y,H',E',rfl,rfl,hv',hm',ht,hk⟩|⟨v,x,H',E',rfl,rfl,hv',hm',ht,hk⟩
     · exact hn _ E' y H' (m.put (n:=0) hd hm' ht hv') ht hk
     · exact hp E' v x H' ⟨hm',fun t=>(m.regs t).trans m.hm ht,m.size,m.defers⟩ ht hv' hk
theorem aII {o:Oper} {c:CO} (h:eU P o=some c):c.sp=false:=by
 unfold eU at h
 (repeat' split at h)<;>first|(cases h;done)|(cases h;rfl)
theorem yK {o:Oper} {z:Nat} {x i:Operand} (h:cJ P o=some (.iab z x i)):False:=by
 unfold cJ kE jA fV kD fW eB at h
 (repeat' split at h)<;>first|(cases h;done)|skip
theorem aBQ {o:Oper} {c:CO} (h:jB P o=some c):c.sp=false:=by
 unfold jB at h
 split at h
 · split at h
   · rename_i hcl
     cases h
     rename_i h1
     cases c<;>first|rfl|(simp [CO.cls] at hcl;done)|exact (yK h1).elim
   · cases h
 · split at h
   · rename_i hc'
     split at h
     · cases h;exact aII hc'
     · cases h
   · unfold fB at h
     split at h<;>first|(cases h;rfl)|cases h
theorem aFo {o:Oper} {z:Nat} {x:Operand} {lo hi:Option Operand} (h:cJ P o=some (.slc z x lo hi)):∃ t el,o.op= .slice t x lo hi none/\P.underlying t=some (.slice el)/\(P.info? el).isSome=true/\P.cellsOf el=z:=by
 unfold cJ kE jA fV kD fW eB at h
 (repeat' split at h)<;>first|(cases h;done)|skip
 cases h
 exact ⟨_,_,by assumption,by assumption,by assumption,rfl⟩
theorem a4o {o:Oper} {z b:Nat} {s x:Operand} (h:eU P o=some (.app z b s x)):∃ args ts t t2 el el2,o.op= .call { callee:=.builtin .append,args:=args,argTypes:=ts }/\args.toList=[s,x]/\ts.toList=[t,t2]/\P.underlying t=some (.slice el)/\P.underlying t2=some (.slice el2)/\(P.info? el).isSome=true/\P.cellsOf el=z/\P.bytesOf el=b:=by
 unfold eU at h
 (repeat' split at h)<;>first|(cases h;done)|skip
 rename_i hcond
 simp only [Bool.and_eq_true] at hcond
 cases h
 exact ⟨_,_,_,_,_,_,by assumption,by assumption,by assumption,by assumption,by assumption,hcond.1,rfl,rfl⟩
theorem yM {o:Oper} {z b:Nat} {s x:Operand} (h:cJ P o=some (.app z b s x)):False:=by
 unfold cJ kE jA fV kD fW eB at h
 (repeat' split at h)<;>first|(cases h;done)|skip
theorem aQw {o:Oper} {z b:Nat} {zero:AV} {s x:Operand} (h:eU P o=some (.apz z b zero s x)):∃ args ts t t2 el kk,o.op= .call { callee:=.builtin .append,args:=args,argTypes:=ts }/\args.toList=[s,x]/\ts.toList=[t,t2]/\P.underlying t=some (.slice el)/\P.underlying t2=some (.int kk)/\gC P el=some zero/\(P.info? el).isSome=true/\P.cellsOf el=z/\P.bytesOf el=b:=by
 unfold eU at h
 (repeat' split at h)<;>first|(cases h;done)|skip
 rename_i hcond
 simp only [Bool.and_eq_true] at hcond
 cases h
 exact ⟨_,_,_,_,_,_,by assumption,by assumption,by assumption,by assumption,by assumption,by assumption,hcond.1,rfl,rfl⟩
theorem yL {o:Oper} {z b:Nat} {zero:AV} {s x:Operand} (h:cJ P o=some (.apz z b zero s x)):False:=by
 unfold cJ kE jA fV kD fW eB at h
 (repeat' split at h)<;>first|(cases h;done)|skip
theorem aKZ {o:Oper} {x:Operand} (h:eU P o=some (.mv x)):False:=by
 unfold eU at h
 (repeat' split at h)<;>first|(cases h;done)|skip
theorem aH9 {o:Oper} {x:Operand} (h:cJ P o=some (.mv x)):(execOp a.eval o).run P E.w= .ok (.value (a.eval x)) E.w:=by
 unfold cJ kE jA fV kD fW eB at h
 (repeat' split at h)<;>first|(cases h;done)|skip
 all_goals
  cases h
  rename_i ho
  simp [execOp,ho]
theorem aGT {o:Oper} {z:Nat} {x:Operand} {lo hi:Option Operand} (h:eU P o=some (.slc z x lo hi)):False:=by
 unfold eU at h
 (repeat' split at h)<;>first|(cases h;done)|skip
theorem aGU {o:Oper} {z:Nat} {x i:Operand} (h:eU P o=some (.iad z x i)):False:=by
 unfold eU at h
 (repeat' split at h)<;>first|(cases h;done)|skip
theorem aRr {o:Oper} {z:Nat} {x i:Operand} {e:Operand->AV} {n:Nat} {K:AV->Prop} (hl:cJ P o=some (.iad z x i)) (he:∀ x,E.VR n (a.eval x) (e x)) (h:bH (.iab z x i) e K):LS P E n a o K:=by
 simp only [bH] at h
 split at h
 · rename_i id z' off len k j hx hi
   obtain ⟨rfl,h0,h1,hk⟩:=h
   obtain ⟨v,y,hr,hv,rfl⟩:=qT (K:=fun y=>y= .ref id (off+j.toNat) 0) hl he (by
    simp only [bH,hx,hi]
    exact ⟨trivial,h0,h1,trivial⟩)
   refine ⟨v,_,hr,?_,hk⟩
   obtain ⟨L,g1,g2,rfl⟩:=hv.mY
   have hxv:=he x
   rw [hx] at hxv
   obtain ⟨_,⟨A,_,h0',_⟩|⟨L',c,hL,hLz,_,_,_⟩⟩:=hxv.cN
   · omega
   · rw [hL] at g2
     cases g2
     have:L.o+(off+j.toNat)*L.z+0=L.o+0*L.z+(off+j.toNat)*z':=by rw [hLz];omega
     rw [this]
     exact .ref g1 hL
 · exact h.elim
theorem wH {o:Oper} {f:FuncId} {args:List Operand} (h:cJ P o=some (.call f args)):False:=by
 unfold cJ kE jA fV kD fW eB at h
 (repeat' split at h)<;>first|(cases h;done)|skip
theorem aE2 {o:Oper} {f:FuncId} {args:List Operand} (h:eU P o=some (.call f args)):False:=by
 unfold eU at h
 (repeat' split at h)<;>first|(cases h;done)|skip
theorem zK {z:Nat} (hz:0<z):(lZ z).el z=true:=by
 unfold lZ
 split
 · rename_i h;subst h;rfl
 · simp [AV.el,AV.cells,AV.ok]
theorem aA5 {z:Nat} {y:AV} (h:y∈(lZ z).cells):y= .any:=by
 unfold lZ at h
 split at h
 · simpa [AV.cells] using h
 · simp [AV.cells] at h;exact h.2
theorem aFB {id z e:Nat} {l:List AV} {L:Loc} (hm:HM E H) (hob:H[id]?=some (.arr z l)) (hL:E.μ id=some L) (hz:0<z) (he:L.o+(l.length+e)*z<=L.n):HM E (H.set id (.arr z (l++List.replicate e (lZ z)))):=by
 rcases hm.obj id _ hob with ⟨g1,g2⟩|⟨L',u,t',fz,g1,g2,g3,g4,g5,g6,g7,g8,g9,g10,g11⟩
 · rw [hL] at g1;cases g1
 rw [hL] at g1
 cases g1
 have hlen:(l++List.replicate e (lZ z)).length=l.length+e:=by simp
 have hel:∀ a∈l++List.replicate e (lZ z),a.el z=true:=fun a ha=>by
  rcases List.mem_append.1 ha with ha|ha
  · exact g8 a ha
  · rw [List.eq_of_mem_replicate ha];exact zK hz
 refine jP hm E.w id (.arr z l) _ L rfl rfl rfl rfl (fun _ _=>rfl) hob rfl hL (.inr ⟨L,u,t',fz,hL,g2,g3,by rw [hlen];exact he,g5,g6,g7,hel,fun k y hk=>?_,fun k h1 h2=>?_,g11⟩)
 · rw [iN] at hk
   have hfl:=bJ g8
   by_cases hkl:k<(flat l).length
   · rw [List.getElem?_append_left hkl] at hk
     exact g9 k y hk
   · rw [List.getElem?_append_right (by omega)] at hk
     obtain ⟨q,hq,hq2⟩:=List.mem_flatMap.1 (List.mem_of_getElem? hk)
     rw [List.eq_of_mem_replicate hq] at hq2
     rw [aA5 hq2]
     have hel2:∀ a∈List.replicate e (lZ z),a.el z=true:=fun a ha=>by rw [List.eq_of_mem_replicate ha];exact zK hz
     have hk2:=(List.getElem?_eq_some_iff.1 hk).1
     rw [bJ hel2,List.length_replicate] at hk2
     rw [Nat.add_mul] at he
     exact .any (g10 (L.o+k) (by omega) (by omega))
 · rw [hlen] at h1
   rw [Nat.add_mul] at h1
   exact g10 k (by omega) h2
theorem aEN {o:Oper} {x:Operand} {K:AV->List AO->Prop} (hr:(execOp a.eval o).run P E.w= .ok (.value (a.eval x)) E.w) (hm:HM E H) {e:Operand->AV} (he:∀ x,E.VR H.length (a.eval x) (e x)) (h:aHW (e x) H K):WS P E H a o K:=by
 have hx:=he x
 unfold aHW at h
 split at h
 · rename_i id z off len heq
   rw [heq] at hx
   unfold aRm at h
   split at h
   · rename_i z' l hob
     obtain ⟨⟨rfl,hz,hoff⟩,h⟩:=h
     obtain ⟨hid,⟨A,hv,rfl,he0⟩|⟨L,c,hL,hLz,hv,hlen,hcap⟩⟩:=hx.cN
     · have hl0:l.length<=off+0:=by
        rcases hm.obj id _ hob with ⟨g1,g2⟩|⟨L,u,t',fz,g1,g2,g3,g4,_⟩
        · subst g2;exact Nat.zero_le _
        · have:=he0 L g1
          have h5:l.length*z'<=off*z':=by omega
          exact Nat.le_of_mul_le_mul_right h5 hz
       have hk:=h 0 (Nat.le_refl _) hl0
       have e0:off+0-l.length=0:=by omega
       rw [e0,List.replicate_zero,List.append_nil,aGN hob] at hk
       refine ⟨.slice A 0 0,_,E,_,.inl (by rw [hr,hv]),.ownx0 hid he0,hm,Trans.refl _ _,hk⟩
     · have hle:L.o+l.length*z'<=L.n:=by
        rcases hm.obj id _ hob with ⟨g1,g2⟩|⟨L',u,t',fz,g1,g2,g3,g4,_⟩
        · rw [hL] at g1;cases g1
        · rw [hL] at g1;cases g1;exact g4
       have hlc:l.length<=off+c:=by
        rw [<- hcap] at hle
        exact Nat.le_of_mul_le_mul_right (by omega) hz
       have hk:=h c hlen hlc
       have hrv:=aFB (e:=off+c-l.length) hm hob hL hz (by rw [show l.length+(off+c-l.length)=off+c by omega,hcap];exact Nat.le_refl _)
       refine ⟨_,_,E,_,.inl (by rw [hr,hv]),?_,hrv,by rw [List.length_set];exact Trans.refl _ _,hk⟩
       rw [List.length_set]
       exact .ownx hid hL hLz hlen hcap
   · exact h.elim
 · rename_i heq
   rw [heq] at hx
   refine ⟨_,_,E,_,.inl hr,hx,hm,Trans.refl _ _,h⟩
 · exact h.elim
theorem aRo {o:Oper} {z:Nat} {x:Operand} {lo hi:Option Operand} {K:AV->Prop} {t el:TypeId} (ho:o.op= .slice t x lo hi none) (ht:P.underlying t=some (.slice el)) (hi0:(P.info? el).isSome=true) (hzz:P.cellsOf el=z)
 (hm:HM E H) {e:Operand->AV} (he:∀ x,E.VR H.length (a.eval x) (e x)) (h:aGK z (e x) (lo.map e) (hi.map e) H K):LS P E H.length a o K:=by
 obtain ⟨ii,hii⟩:=Option.isSome_iff_exists.1 hi0
 have hs:execOp a.eval o=(do pure (.value (<- Instr.sliceAt t (a.eval x) (lo.map a.eval) (hi.map a.eval) none))):=by simp [execOp,ho]
 have hx:=he x
 have hx':=he x
 have hsz:(sizeOf el).run P E.w= .ok z E.w:=by rw [run_sizeOf _ hii,hzz]
 unfold aGK at h
 split at h
 · rename_i id z' off len heq
   obtain ⟨rfl,h⟩:=h
   rw [heq] at hx
   unfold aQo at h
   split at h
   · rename_i z'' l hob
     obtain ⟨⟨rfl,hz⟩,h⟩:=h
     obtain ⟨hid,⟨A,hv,h0,he0⟩|⟨L,c,hL,hLz,hv,hlen,hcap⟩⟩:=hx.cN
     · subst h0
       have hbd:∀ g,off+g<=l.length->g<=0:=fun g hg=>by
        rcases hm.obj id _ hob with ⟨g1,g2⟩|⟨L,u,t',fz,g1,g2,g3,g4,_⟩
        · subst g2
          have e0:([]:List AV).length=0:=rfl
          omega
        · have:=he0 L g1
          have h5:l.length*z''<=off*z'':=by omega
          have:=Nat.le_of_mul_le_mul_right h5 hz
          omega
       have h2:slK (.own id z'' off 0) z'' (lo.map e) (hi.map e) K:=⟨rfl,iD (fun g hg=>⟨hbd g hg.1,hg.2⟩) h⟩
       rw [heq] at hx'
       obtain ⟨r,y,hr,hvr,hk⟩:=aBw (P:=P) (E:=E) (n:=H.length) (vl:=lo.map a.eval) (vh:=hi.map a.eval) ht hi0 hzz hx' (by
        cases lo with
        | none=>trivial
        | some q=>exact he q) (by
        cases hi with
        | none=>trivial
        | some q=>exact he q) h2
       exact .of hs hr hvr hk
     have hle:L.o+l.length*z''<=L.n:=by
      rcases hm.obj id _ hob with ⟨g1,g2⟩|⟨L',u,t',fz,g1,g2,g3,g4,_⟩
      · rw [hL] at g1;cases g1
      · rw [hL] at g1;cases g1;exact g4
     have hlc:l.length<=off+c:=by
      rw [<- hcap] at hle
      exact Nat.le_of_mul_le_mul_right (by omega) hz
     have hlo:match lo.map e,lo.map a.eval with|none,none=>True|some y,some u=>E.VR H.length u y|_,_=>False:=by
      cases lo with
      | none=>trivial
      | some q=>exact he q
     have hhi:match hi.map e,hi.map a.eval with|none,none=>True|some y,some u=>E.VR H.length u y|_,_=>False:=by
      cases hi with
      | none=>trivial
      | some q=>exact he q
     obtain ⟨g,⟨h4,h5⟩,h6⟩:=iY (P:=P) (E:=E) (n:=H.length) (cap:=c) (code:=.sliceAcap) hhi h
     obtain ⟨w,⟨h7,h8⟩,h9⟩:=iY (P:=P) (E:=E) (n:=H.length) (cap:=g) (code:=.sliceB) hlo h5
     rw [hv] at hs
     refine .of hs (v:=.slice (if c=w then some ⟨L.b,L.o+off*z'',none⟩ else (some ⟨L.b,L.o+off*z'',none⟩:Option Addr).map (·.add (w*z''))) (g-w) (c-w)) ?_ ?_ h8
     · simp only [Instr.sliceAt,Sem.run_bind,run_underlying ht,Result.andThen_ok,Instr.slice,Instr.sliceBounds,Sem.run_pure,if_true]
       cases hi with
       | none =>
         simp only [Option.map_none] at h6 ⊢
         subst h6
         cases lo with
         | none=>simp only [Option.map_none] at h9 ⊢;subst h9;simp [hsz]
         | some q =>
           simp only [Option.map_some] at h9 ⊢
           have h9:(Instr.sliceBound (a.eval q) g .sliceB).run P E.w= .ok w E.w:=h9 h7
           simp [h9,hsz]
       | some q' =>
         simp only [Option.map_some] at h6 ⊢
         have h6:(Instr.sliceBound (a.eval q') c .sliceAcap).run P E.w= .ok g E.w:=h6 (by omega)
         cases lo with
         | none=>simp only [Option.map_none] at h9 ⊢;subst h9;simp [h6,hsz]
         | some q =>
           simp only [Option.map_some] at h9 ⊢
           have h9:(Instr.sliceBound (a.eval q) g .sliceB).run P E.w= .ok w E.w:=h9 h7
           simp [h6,h9,hsz]
     · by_cases hc2:c=w
       · rw [if_pos hc2]
         have e0:g-w=0:=by omega
         have e1:c-w=0:=by omega
         rw [e0,e1]
         refine .own0 hid fun L' hL'=>?_
         rw [hL] at hL'
         cases hL'
         rw [<- hc2,hcap]
         exact Nat.le_refl _
       · rw [if_neg hc2]
         have ea:(Addr.add ⟨L.b,L.o+off*z'',none⟩ (w*z''))=⟨L.b,L.o+(off+w)*z'',none⟩:=by
          have:L.o+off*z''+w*z''=L.o+(off+w)*z'':=by rw [Nat.add_mul];omega
          unfold Addr.add
          split
          · rename_i h0;rw [<- this,h0];simp
          · rw [<- this]
         simp only [Option.map_some,ea]
         refine .own hid hL hLz (by omega) ?_
         have e9:off+w+(c-w)=off+c:=by omega
         rw [e9]
         exact hcap
   · exact h.elim
 · exact h.elim
theorem sY {o:Oper} {c:CO} (hc:jB P o=some c.bare) (m:Match N E r H a) (hd:∀ t,o.dst=some t->t<N.n) {K Kp:AV->List AO->Prop} (h:opK P c (Ab.ev r) H K Kp) {next:Act->World->Prop} {Q:Exit->Act->World->Prop}
 (hn:∀ a' E' y H',Match N E' (bT r o.dst y) H' a'->Trans E H.length E' H'.length->K y H'->next a' E'.w)
 (hp:∀ E' v x H',Match N E' r H' a->Trans E H.length E' H'.length->E'.VR H'.length v x->Kp x H'->Q (.panic [⟨v,false,false⟩]) a E'.w):o.wp P a E.w next Q:=by
 have he:∀ x,E.VR H.length (a.eval x) (Ab.ev r x):=fun x=>m.ev
 cases hs:c.sp
 · rw [kT hs] at h
   rw [n8 hs] at hc
   exact uZ hc m hd h hn hp
 · cases c<;>try (simp [CO.sp] at hs;done)
   · rename_i z x lo hi
     have hc:jB P o=some (.slc z x lo hi):=hc
     have hl:cJ P o=some (.slc z x lo hi):=by
      unfold jB at hc
      split at hc
      · split at hc
        · rename_i h1 _;cases hc;exact h1
        · cases hc
      · split at hc
        · split at hc
          · rename_i h1 _;cases hc;exact (aGT h1).elim
          · cases hc
        · unfold fB at hc
          split at hc<;>cases hc
     obtain ⟨t,el,h1,h2,h3,h4⟩:=aFo hl
     exact aBF (aRo h1 h2 h3 h4 m.hm he h) m hd fun a' y hm hk=>hn a' E y H hm (Trans.refl _ _) hk
   · rename_i f args
     have hc:jB P o=some (.call f args):=hc
     have hl:fB o=some (.call f args):=by
      unfold jB at hc
      split at hc
      · split at hc
        · rename_i h1 _;cases hc;exact (wH h1).elim
        · cases hc
      · split at hc
        · split at hc
          · rename_i h1 _;cases hc;exact (aE2 h1).elim
          · cases hc
        · exact hc
     have ho:∃ as ts,o.op= .call { callee:=.value (.func f),args:=as,argTypes:=ts }/\as.toList=args:=by
      unfold fB at hl
      split at hl
      · rename_i f' as ts ho
        cases hl
        exact ⟨as,ts,ho,rfl⟩
      · cases hl
      · cases hl
     obtain ⟨as,ts,ho,rfl⟩:=ho
     obtain ⟨v,y,E',H',h1,h2,h3,h4,h5⟩:=h E (as.toList.map a.eval) m.hm (by simp) (iL he _)
     refine r0 ⟨v,y,E',H',.inl ?_,h2,h3,h4,h5⟩ m hd hn
     simp only [execOp,ho,resolve,Act.eval,Deferred.ofValue,pure_bind,invoke]
     rw [<- h1]
     congr 2
     apply Array.ext'
     simp
   · rename_i z b s x
     have hc:jB P o=some (.app z b s x):=hc
     have hl:eU P o=some (.app z b s x):=by
      unfold jB at hc
      split at hc
      · split at hc
        · rename_i h1 _;cases hc;exact (yM h1).elim
        · cases hc
      · split at hc
        · split at hc
          · rename_i h1 _;cases hc;exact h1
          · cases hc
        · unfold fB at hc
          split at hc<;>cases hc
     obtain ⟨args,ts,t,t2,el,el2,h1,h2,h3,h4,h5,h6,rfl,rfl⟩:=a4o hl
     exact r0 (a2H h1 h2 h3 h4 h5 h6 m.hm he h) m hd hn
   · rename_i x
     have hc:jB P o=some (.mv x):=hc
     have hl:cJ P o=some (.mv x):=by
      unfold jB at hc
      split at hc
      · split at hc
        · rename_i h1 _;cases hc;exact h1
        · cases hc
      · split at hc
        · split at hc
          · rename_i h1 _;cases hc;exact (aKZ h1).elim
          · cases hc
        · unfold fB at hc
          split at hc<;>cases hc
     exact r0 (aEN (aH9 hl) m.hm he h) m hd hn
   · rename_i z b zero s x g
     have hc:jB P o=some (.apz z b zero s x):=hc
     have hl:eU P o=some (.apz z b zero s x):=by
      unfold jB at hc
      split at hc
      · split at hc
        · rename_i h1 _;cases hc;exact (yL h1).elim
        · cases hc
      · split at hc
        · split at hc
          · rename_i h1 _;cases hc;exact h1
          · cases hc
        · unfold fB at hc
          split at hc<;>cases hc
     obtain ⟨args,ts,t,t2,el,kk,h1,h2,h3,h4,h5,h6,h7,rfl,rfl⟩:=aQw hl
     exact r0 (aEU h1 h2 h3 h4 h5 h6 h7 m.hm he h) m hd hn
   · rename_i z x i
     have hc:jB P o=some (.iad z x i):=hc
     have hl:cJ P o=some (.iad z x i):=by
      unfold jB at hc
      split at hc
      · split at hc
        · rename_i h1 _;cases hc;exact h1
        · cases hc
      · split at hc
        · split at hc
          · rename_i h1 _;cases hc;exact (aGU h1).elim
          · cases hc
        · unfold fB at hc
          split at hc<;>cases hc
     have h:bH (.iab z x i) (Ab.ev r) fun y=>K y H:=h
     exact aBF (aRr hl he h) m hd fun a' y hm hk=>hn a' E y H hm (Trans.refl _ _) hk
   · exact r0 (h o E a hc m.hm fun x _=>he x) m hd hn
   · exact r0 (h o E a hc m.hm fun x _=>he x) m hd hn
   · rename_i f args
     obtain ⟨p,h1,h2⟩:=h
     have hc:jB P o=some (.call f args):=hc
     exact uZ (K:=K) (Kp:=Kp) hc m hd (show dK P f (args.map (Ab.ev r)) H K Kp from (h1 H).to fun y G ⟨g1,g2⟩=>by subst g2;exact h2 y g1) hn hp
theorem aA2 {o:Oper} {c:CO} (h:jB P o=some c.gX):jB P o=some c.bare:=by
 cases hs:c.sp
 · rw [n8 hs]
   cases c<;>first|exact h|simp [CO.sp] at hs
 · cases c<;>first|(simp [CO.sp] at hs;done)|exact h|exact absurd (aBQ h) (by simp [CO.gX,CO.sp])
theorem aFa {o:Oper} {c:CO} (hc:jB P o=some c) (m:Match N E r H a) (hd:∀ t,o.dst=some t->t<N.n) {K Kp:AV->List AO->Prop} (h:opK P c (Ab.ev r) H K Kp) {next:Act->World->Prop} {Q:Exit->Act->World->Prop}
 (hn:∀ a' E' y H',Match N E' (bT r o.dst y) H' a'->Trans E H.length E' H'.length->K y H'->next a' E'.w)
 (hp:∀ E' v x H',Match N E' r H' a->Trans E H.length E' H'.length->E'.VR H'.length v x->Kp x H'->Q (.panic [⟨v,false,false⟩]) a E'.w):o.wp P a E.w next Q :=
 sY (by rw [n8 (aBQ hc)];exact hc) m hd h hn hp
theorem xX {c:CO} {e:Operand->AV} {H:List AO} {K Kp:AV->List AO->Prop} (h:opD P c e H K):oS P c e H K Kp:=by
 by_cases hpan:∃ x,c= .pan x
 · obtain ⟨x,rfl⟩:=hpan
   exact h.elim
 have key:(match c.cls with
  | .light=>bH c e fun y=>K y H
  | .reader=>cP c e H fun y=>K y H
  | .alloc| .writer=>bQ c e H K
  | .call=>iO e c fun f args=>dK P f args H K Kp):=by
  unfold opD at h
  cases hc:c.cls<;>rw [hc] at h<;>simp only at h ⊢ <;>(first|exact h|exact h.2|skip)
  have go:∀ f args,(∃ y,aI P f args H y/\K y H)->dK P f args H K Kp:=fun f args ⟨y,h1,h2⟩=>by
   have h3:=h1 []
   rw [List.append_nil] at h3
   exact h3.to fun a b ⟨g1,g2⟩=>by subst g1 g2;exact h2
  unfold iO at h ⊢
  split at h
  · exact go _ _ h
  · split at h
    · exact go _ _ h
    · exact h.elim
  · exact h.elim
 unfold oS
 split
 · exact absurd ⟨_,rfl⟩ hpan
 · exact key
theorem aAg {c:CO} {e:Operand->AV} {H:List AO} {K Kp:AV->List AO->Prop} (h:opD P c e H K):opK P c e H K Kp:=by
 cases hs:c.sp
 · rw [kT hs];exact xX h
 · cases c<;>first|(simp [CO.sp] at hs;done)|exact h.elim|exact h|exact h.2
end sound
end Go.Ab
