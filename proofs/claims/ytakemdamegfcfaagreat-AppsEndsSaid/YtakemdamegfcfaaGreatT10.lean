/- A part of a proof: how code is told and stepped through. No condition. -/
import Derived.Test.YtakemdamegfcfaaGreatT2
import Derived.Test.YtakemdamegfcfaaGreatT3
set_option linter.unusedSimpArgs false
set_option linter.unusedVariables false
namespace Go.Ab
open Go
structure Mk where
 gc:Nat:=0
 ty:List (Bool×Nat):=[]
 fz:List (Bool×Nat×List Nat):=[]
 fs:Bool:=true
def aMN (n:Nat):List Nat->List Nat
 | []=>[n]
 | k :: l=>if n<k then n :: k :: l else if n=k then k :: l else k :: aMN n l
def aGv (a b:List Nat):List Nat:=a.foldl (fun l n=>aMN n l) b
def tmO:Operand->List Nat
 | .tmp t=>[t]
 | _=>[]
def aP.aYl (o:aP):List Nat:=o.op.ops.flatMap tmO++(match o.guard with
 | some (g,_)=>[g]
 | none=>[])
def aBJ (ops:List aP) (out:List Nat):List Nat:=ops.foldr (fun o L=>aGv o.aYl (match o.dst with
 | some d=>L.filter (· !=d)
 | none=>L)) out
def aH8:OT->List Nat->List Nat
 | .fin l,out=>aBJ l out
 | .pre l a b,out=>aBJ l (aGv (aH8 a out) (aH8 b out))
def aM1 (f:List Nat->List Nat):Nat->List Nat->List Nat
 | 0,H=>H
 | n+1,H=>let L:=f H;if L.all H.contains then H else aM1 f n (aGv L H)
def nP:CC->List Nat->List (Nat×List Nat)->List Nat->List Nat
 | .skip,out,_,_=>out
 | .reg l _ _ _,out,_,_=>aBJ l out
 | .sch t _ _ _,out,_,_=>aH8 t out
 | .seq a b,out,env,res=>nP a (nP b out env res) env res
 | .cond c t e,out,env,res=>aGv (tmO c) (aGv (nP t out env res) (nP e out env res))
 | .block _ id b,out,env,res=>nP b out ((id,out) :: env) res
 | .loop _ _ b,_,env,res=>nP b (aM1 (fun H=>nP b H env res) 9 []) env res
 | .exit id,_,env,_=>(env.find? (·.1==id)).elim [] (·.2)
 | .ret,_,_,res=>res
 | _,out,_,_=>out
def isApp:CO->Bool
 | .app _ _ _ _| .apz _ _ _ _ _| .apin _ _ _ _=>true
 | _=>false
def aA8:CC->List aP
 | .reg l _ _ _=>l
 | .sch t _ _ _=>t.opers
 | .seq a b=>aA8 a++aA8 b
 | .cond _ t e=>aA8 t++aA8 e
 | .block _ _ b=>aA8 b
 | .loop _ _ b=>aA8 b
 | _=>[]
def lvs (c:CC):List Nat :=
 let l:=aA8 c
 let ap:=l.filterMap fun o=>if isApp o.op then o.dst else none
 l.filterMap fun o=>match o.op with
   | .mv (.tmp t)=>if ap.contains t then o.dst else none
   | _=>none
def aSu (lv:List Nat) (ops:List aP) (o:aP):List Nat :=
 match o.op,o.guard with
 | .st 1 _ (.tmp x),none=>if ops.any fun q=>q.dst==some x&&(isApp q.op||match q.op with
     | .mv (.tmp t)=>lv.contains t
     | _=>false) then [x] else []
 | _,_=>[]
def aMV:AV->Bool
 | .agg l=>l.any fun a=>match a with
   | .aD=>true
   | _=>false
 | .aD=>true
 | _=>false
def aXZ (o:aP):List Nat :=
 match o.op with
 | .bls _ _ z ps=>if aMV z then (ps.flatMap fun p=>tmO p.2).foldl (fun l n=>aMN n l) [] else []
 | _=>[]
def aIG (m:Mk) (lv:List Nat):List aP->List aP->Nat->List (Nat×List Nat×Bool)
 | _,[],_=>[]
 | seen,o :: r,i =>
   let a:=(match aXZ o with
    | []=>[]
    | l=>[(i,l,false)])
   let b:=m.fz.filterMap fun p=>if o.dst==some p.2.1 then some (if p.1 then i+1 else i,p.2.2,false) else none
   let c:=if m.fs&&a.isEmpty then (match aSu lv seen o with
    | []=>[]
    | l=>[(i,l,false)]) else []
   let d:=m.ty.filterMap fun p=>if o.dst==some p.2 then some (if p.1 then i+1 else i,([]:List Nat),true) else none
   a++b++c++d++aIG m lv (o :: seen) r (i+1)
def aW6 (m:Mk) (fin out:List Nat):List (Nat×List Nat×Bool)->Nat->List aP->CC
 | [],_,l=>.reg l false fin (some out)
 | (i,fz,ty) :: r,k,l =>
   let x:=CC.reg (l.take (i-k)) false fz (some (aBJ (l.drop (i-k)) out))
   .cat (if ty then .tidy m.gc x else x) (aW6 m fin out r i (l.drop (i-k)))
def aVc:CC->Bool
 | .ret=>true
 | .seq .ret _=>true
 | _=>false
def aA6 (m:Mk) (lv res:List Nat):CC->List Nat->Bool->List (Nat×List Nat)->CC
 | .reg l true _ _,out,rt,_=>.reg l true (if rt then res else []) (some out)
 | .reg l false _ _,out,rt,_=>aW6 m (if rt then res else []) out (aIG m lv [] l 0) 0 l
 | .sch t d _ _,out,rt,_ =>
   if m.ty.any fun p=>p.1&&t.opers.any fun o=>o.dst==some p.2 then .tidy m.gc (.sch t d (if rt then res else []) (some out)) else .sch t d (if rt then res else []) (some out)
 | .seq a b,out,rt,env=>.seq (aA6 m lv res a (nP b out env res) (aVc b) env) (aA6 m lv res b out rt env)
 | .cond c t e,out,rt,env=>.cond c (aA6 m lv res t out rt env) (aA6 m lv res e out rt env)
 | .block _ id b,out,rt,env=>.block (some out) id (aA6 m lv res b out rt ((id,out) :: env))
 | .loop _ _ x,out,rt,env=>.loop m.gc (some (aM1 (fun H=>nP x H env res) 9 [])) (aA6 m lv res x (aM1 (fun H=>nP x H env res) 9 []) false env)
 | c,_,_,_=>c
def aZg (m:Mk) (res:List Nat) (c:CC):CC:=aA6 m (lvs c) res c (res.foldl (fun l n=>aMN n l) []) true []
def CC.aV:CC->List Nat->CC
 | c,[]=>c
 | .seq a _,0 :: p=>a.aV p
 | .seq _ b,1 :: p=>b.aV p
 | .cond _ a _,0 :: p=>a.aV p
 | .cond _ _ b,1 :: p=>b.aV p
 | .block _ _ b,_ :: p=>b.aV p
 | .loop _ _ b,_ :: p=>b.aV p
 | c,_=>c
def CC.aU:CC->List Nat->CC->CC
 | _,[],x=>x
 | .seq a b,0 :: p,x=>.seq (a.aU p x) b
 | .seq a b,1 :: p,x=>.seq a (b.aU p x)
 | .cond c a b,0 :: p,x=>.cond c (a.aU p x) b
 | .cond c a b,1 :: p,x=>.cond c a (b.aU p x)
 | .block k i b,_ :: p,x=>.block k i (b.aU p x)
 | .loop g k b,_ :: p,x=>.loop g k (b.aU p x)
 | c,_,_=>c
def tK (P:Program):Code->CC
 | .skip=>.skip
 | .region _ ops d=>.reg ((jS P ops ops.toList).getD []) d [] none
 | .seq a b=>.seq (tK P a) (tK P b)
 | .cond c a b=>.cond c (tK P a) (tK P b)
 | .block id b=>.block none id (tK P b)
 | .loop b=>.loop 0 none (tK P b)
 | .exit id=>.exit id
 | .ret=>.ret
 | _=>.bad
def aSM (P:Program) (b:Option Code):CC:=match b with
 | some c=>tK P c
 | none=>.bad
def aJ (P:Program) (f:Nat):CC :=
 match P.funcs[f]? with
 | some fn=>aSM P fn.body
 | none=>.bad
inductive HT where
 | f (l:List Nat)
 | p (l:List Nat) (a b:HT)
def hop (l:List aP) (i:Nat):aP :=
 match i / 1000,l.getD (i % 1000) default with
 | 1,⟨d,.ld n a x,g⟩=>⟨d,.ldp n a x,g⟩
 | 2,⟨d,.call f x,g⟩=>⟨d,.calf f x,g⟩
 | _,o=>o
def HT.ot (l:List aP):HT->OT
 | .f x=>.fin (x.map (hop l))
 | .p x a b=>.pre (x.map (hop l)) (a.ot l) (b.ot l)
def aYr (c:CC) (h:List (List Nat×HT)):CC:=h.foldl (fun c p=>c.aU p.1 (match c.aV p.1 with
 | .reg l _ _ _=>.sch (p.2.ot l) (p.2.ot l).p7 [] none
 | x=>x)) c
def aUq (P:Program) (f:Nat):List Nat :=
 match P.funcs[f]? with
 | some fn=>fn.results.toList.map fun r=>match r with
   | .tmp t=>t
   | .cell t _=>t
 | none=>[]
def bA (P:Program) (f:Nat) (m:Mk) (c:CC) (h:List (List Nat×HT)):CC:=aZg m (aUq P f) (aYr c h)
end Go.Ab
