/- A part of a proof: how code is told and stepped through. No condition. -/
import Derived.Test.YtakemdamegfcfaaGreatT5
import Derived.Recover
import Derived.Test.YtakemdamegfcfaaGreatT2
import Derived.Test.YtakemdamegfcfaaGreatT3
import Derived.Lib.Overlaps
set_option linter.unusedSimpArgs false
set_option linter.unusedVariables false
namespace Go.Ab
open Go
def up (n:Nat) (i:Nat):Nat:=n+i
theorem aBP {n:Nat}:ext [] n=up n:=by funext i;simp [ext,up]
theorem aW.new {P:Program} {f:FuncId} {args:List AV} {H:List AO} {Post:AV->List AO->Prop} (h:aW P f args [] Post) (hb:AV.nM 0 args=true) (ha:AV.lG (fun _=>0) args=args) :
 aW P f args H fun y' H'=>∃ y Hr,Post y Hr/\y'=y.ren (up H.length)/\H'=H++Hr.map (AO.ren (up H.length)):=by
 have key:=h.frame (H:=H) [] rfl List.nodup_nil (by simp) (by simp) hb
 have e:AV.lG (fun i=>([]:List Nat).getD i 0) args=args:=by simpa using ha
 rw [e] at key
 refine key.mono fun y' G ⟨y,Hr,h1,h2,h3⟩=>⟨y,Hr,h1,by rw [h2,aBP],?_⟩
 rw [h3]
 simp [spl,j8,aBP]
theorem nI {P:Program} {f:FuncId} {args:List AV} {H:List AO} {Post K Kp:AV->List AO->Prop} (h:aW P f args [] Post) (hb:AV.nM 0 args=true) (ha:AV.lG (fun _=>0) args=args)
 (hk:∀ y Hr,Post y Hr->K (y.ren (up H.length)) (H++Hr.map (AO.ren (up H.length)))):acK P f args H K Kp :=
 (h.new hb ha).to fun y' G ⟨y,Hr,h1,h2,h3⟩=>by subst h2 h3;exact hk y Hr h1
theorem sG {E:Env} {n0:Nat} {H H1:List AO} {v:Value} {y y1:AV} {E0:Env} (hm:HM E H) (hv:E.VR H.length v y) (t:Trans E0 n0 E H.length) (h:Sub n0 ⟨[(0,y)],H⟩ ⟨[(0,y1)],H1⟩) :
 ∃ E1:Env,E1.w=E.w/\E1.VR H1.length v y1/\HM E1 H1/\Trans E0 n0 E1 H1.length:=by
 have m:Match ⟨1,[]⟩ E (bX.get [(0,y)]) H { tmps:= #[v],defers:=[] }:=⟨hm,fun q=>by
  by_cases hq:q=0
  · subst hq;exact hv
  · have:bX.get [(0,y)] q= .top:=by simp [bX.get,Ne.symm hq]
    rw [this];exact .top,rfl,rfl⟩
 obtain ⟨E1,k1,k2,k3⟩:=kN h (Nat.le_refl _) t.num m
 refine ⟨E1,k1,?_,k2.hm,t.iQ k3⟩
 have:=k2.regs 0
 simpa [bX.get] using this
theorem dK.sub {P:Program} {f:FuncId} {args:List AV} {H:List AO} {Post PP Post' PP':AV->List AO->Prop} (h:dK P f args H Post PP)
 (hk:∀ y G,Post y G->∃ y1 G1,Sub H.length ⟨[(0,y)],G⟩ ⟨[(0,y1)],G1⟩/\Post' y1 G1) (hp:∀ y G,PP y G->∃ y1 G1,Sub H.length ⟨[(0,y)],G⟩ ⟨[(0,y1)],G1⟩/\PP' y1 G1):dK P f args H Post' PP' :=
 ⟨h.1,fun E vs hm hl hv=>(h.2 E vs hm hl hv).mono fun e w' q=>by
   rcases q with ⟨v,y,H',E',h1,h2,h3,h4,h5,h6⟩|⟨v,y,H',E',h1,h2,h3,h4,h5,h6⟩
   · obtain ⟨y1,G1,hs,hq⟩:=hk _ _ h6
     obtain ⟨E1,k1,k2,k3,k4⟩:=sG h4 h3 h5 hs
     exact .inl ⟨v,y1,G1,E1,h1,k1.trans h2,k2,k3,k4,hq⟩
   · obtain ⟨y1,G1,hs,hq⟩:=hp _ _ h6
     obtain ⟨E1,k1,k2,k3,k4⟩:=sG h4 h3 h5 hs
     exact .inr ⟨v,y1,G1,E1,h1,k1.trans h2,k2,k3,k4,hq⟩⟩
theorem aW.sub {P:Program} {f:FuncId} {args:List AV} {H:List AO} {Post Post':AV->List AO->Prop} (h:aW P f args H Post)
 (hk:∀ y G,Post y G->∃ y1 G1,Sub H.length ⟨[(0,y)],G⟩ ⟨[(0,y1)],G1⟩/\Post' y1 G1):aW P f args H Post' :=
 ((h.to (PP:=fun _ _=>False) fun _ _ h=>h).sub hk fun _ _ h=>h.elim).never fun _ _ h=>h
def aU4 (E:Env) (n:Nat) (x:Option AV) (u:FrameMode):Prop :=
 match x with
 | none=>u= .returning
 | some y=>∃ v,u= .panicking [⟨v,false,false⟩]/\E.VR n v y
def aKA (P:Program) (g:FuncId) (args:List AV) (x:Option AV) (H:List AO) (Post:List AO->Prop):Prop :=
 mQ P g=true/\∀ (E:Env) (vs:List Value) (u:FrameMode),HM E H->vs.length=args.length->(∀ k y,args[k]?=some y->E.VR H.length (vs.getD k undef) y)->aU4 E H.length x u ->
  CallsD P g vs.toArray u E.w fun e u' w'=>∃ v H' E',e= .returned v/\settle u'= .returning/\E'.w=w'/\HM E' H'/\Trans E H.length E' H'.length/\Post H'
theorem aKA.mono {P:Program} {g:FuncId} {args:List AV} {x:Option AV} {H:List AO} {Post Post':List AO->Prop} (h:aKA P g args x H Post) (hk:∀ G,Post G->Post' G):aKA P g args x H Post' :=
 ⟨h.1,fun E vs u a b c d=>(h.2 E vs u a b c d).mono fun e u' w' ⟨v,H',E',k1,k2,k3,k4,k5,k6⟩=>⟨v,H',E',k1,k2,k3,k4,k5,hk _ k6⟩⟩
section
variable {P:Program} {ops:Array Oper} {Q:Exit->Act->List Frame->World->Prop} {a:Act} {cs:List Frame} {w:World}
end
theorem aAD {E:Env} {H:List AO} {args:List AV} {vs:List Value} {n:Nat} (hm:HM E H) (hl:vs.length=args.length) (hn:args.length<=n) (hv:∀ k y,args[k]?=some y->E.VR H.length (vs.getD k undef) y) :
 Match ⟨n,[]⟩ E (lX 0 args).get H { tmps:=vs.toArray++Array.replicate (n-vs.toArray.size) undef,defers:=[] }:=by
 refine ⟨hm,fun t=>?_,by simp;omega,rfl⟩
 simp only
 rw [p9,if_pos (Nat.zero_le t),Nat.sub_zero]
 by_cases ht:t<args.length
 · have hx:=hv t _ (List.getElem?_eq_getElem ht)
   have e1:(vs.toArray++Array.replicate (n-vs.toArray.size) undef).getD t undef=vs.getD t undef:=by
    rw [Array.getD_eq_getD_getElem?,Array.getElem?_append_left (by simp;omega),List.getD_eq_getElem?_getD]
    simp
   rw [e1,List.getD_eq_getElem?_getD (l:=args),List.getElem?_eq_getElem ht]
   exact hx
 · rw [List.getD_eq_getElem?_getD,List.getElem?_eq_none (by omega)]
   exact .top
section eqs
variable {P:Program} {e:Operand->AV} {H:List AO} {K Kp:AV->List AO->Prop}
theorem aQX {x:Operand}:opK P (.mv x) e H K Kp=cM (e x) fun y=>K y H:=rfl
theorem aQ3 {x:Operand}:opD P (.mv x) e H K=cM (e x) fun y=>K y H:=propext ⟨fun h=>h.2,fun h=>⟨rfl,h⟩⟩
theorem aHk {c a b:Operand}:opK P (.pick c a b) e H K Kp=aHg (e c) (e a) (e b) fun y=>K y H:=rfl
theorem aHs {c a b:Operand}:opD P (.pick c a b) e H K=aHg (e c) (e a) (e b) fun y=>K y H:=propext ⟨fun h=>h.2,fun h=>⟨rfl,h⟩⟩
theorem aLZ {op:BinOp} {x y:Operand}:opK P (.bin op x y) e H K Kp=uM op (e x) (e y) fun y=>K y H:=rfl
theorem aL9 {op:BinOp} {x y:Operand}:opD P (.bin op x y) e H K=uM op (e x) (e y) fun y=>K y H:=propext ⟨fun h=>h.2,fun h=>⟨rfl,h⟩⟩
theorem aL0 {neg:Bool} {x y:Operand}:opK P (.beq neg x y) e H K Kp=aX1 neg (e x) (e y) fun y=>K y H:=rfl
theorem aLI {neg:Bool} {ks:List AV} {x y:Operand}:opK P (.seq neg ks x y) e H K Kp=aGO neg ks (e x) (e y) fun y=>K y H:=rfl
theorem aLO {k:Nat} {neg:Bool} {x y:Operand}:opK P (.isn k neg x y) e H K Kp=(aHR k (e y)=true/\oW k (e x) fun b=>cM (.bool (if neg then !b else b)) fun y=>K y H):=rfl
theorem aQV {op:UnOp} {x:Operand}:opK P (.un op x) e H K Kp=unK op (e x) fun y=>K y H:=rfl
theorem aQ1 {op:UnOp} {x:Operand}:opD P (.un op x) e H K=unK op (e x) fun y=>K y H:=propext ⟨fun h=>h.2,fun h=>⟨rfl,h⟩⟩
theorem aLU {k:IntKind} {x:Operand}:opK P (.cvi k x) e H K Kp=aM7 k (e x) fun y=>K y H:=rfl
theorem aLL {fn:Fn} {first cap:List Operand}:opK P (.mkf fn first cap) e H K Kp=cM (.fn fn (first.map e) (cap.map e)) fun y=>K y H:=rfl
theorem aLH {z:Nat} {x:Operand} {lo hi:Option Operand}:opK P (.slc z x lo hi) e H K Kp=slK (e x) z (lo.map e) (hi.map e) fun y=>cM y fun y=>K y H:=rfl
theorem aL3 {z:Nat} {x:Operand} {lo hi:Option Operand}:opD P (.slc z x lo hi) e H K=slK (e x) z (lo.map e) (hi.map e) fun y=>cM y fun y=>K y H:=propext ⟨fun h=>h.2,fun h=>⟨rfl,h⟩⟩
theorem aLF {x:Operand} {lo hi:Option Operand}:opK P (.sls x lo hi) e H K Kp=aUi (e x) (lo.map e) (hi.map e) fun y=>K y H:=rfl
theorem aLS {off:Nat} {x:Operand}:opK P (.fad off x) e H K Kp=aIz off (e x) fun y=>K y H:=rfl
theorem aL6 {off:Nat} {x:Operand}:opD P (.fad off x) e H K=aIz off (e x) fun y=>K y H:=propext ⟨fun h=>h.2,fun h=>⟨rfl,h⟩⟩
theorem aLR {off n:Nat} {agg:Bool} {x:Operand}:opK P (.fld off n agg x) e H K Kp=aWU off n agg (e x) fun y=>K y H:=rfl
theorem aLP {z:Nat} {x i:Operand}:opK P (.iad z x i) e H K Kp=aIo z (e x) (e i) fun y=>K y H:=rfl
theorem aL4 {z:Nat} {x i:Operand}:opD P (.iad z x i) e H K=aIo z (e x) (e i) fun y=>K y H:=propext ⟨fun h=>h.2,fun h=>⟨rfl,h⟩⟩
theorem aLN {x i:Operand}:opK P (.ixs x i) e H K Kp=aVb (e x) (e i) fun y=>K y H:=rfl
theorem aLT {i:Nat} {x:Operand}:opK P (.ext i x) e H K Kp=aWW i (e x) fun y=>K y H:=rfl
theorem aHl {x:Operand}:opK P (.lens x) e H K Kp=aN8 (e x) fun y=>K y H:=rfl
theorem aHm {x:Operand}:opK P (.lenl x) e H K Kp=yO (e x) fun y=>K y H:=rfl
theorem aHt {x:Operand}:opD P (.lenl x) e H K=yO (e x) fun y=>K y H:=propext ⟨fun h=>h.2,fun h=>⟨rfl,h⟩⟩
theorem aHo {x:Operand}:opK P (.capl x) e H K Kp=aP9 (e x) fun y=>K y H:=rfl
theorem aLM {n:Nat} {agg:Bool} {x:Operand}:opK P (.ldp n agg x) e H K Kp=aU8 n agg (e x) fun y=>K y H:=rfl
theorem aQY {mx:Bool} {x:Operand} {xs:List Operand}:opK P (.mm mx x xs) e H K Kp=aU5 mx (e x) (xs.map e) fun y=>K y H:=rfl
theorem aLY {zero:List AV} {ps:List (Nat×Nat×Operand)}:opK P (.bld zero ps) e H K Kp=aX0 zero (ps.map fun p=>(p.1,p.2.1,e p.2.2)) fun y=>K y H:=rfl
theorem aHn {n:Nat} {agg:Bool} {x:Operand}:opK P (.ld n agg x) e H K Kp=ldK n agg H (e x) fun y=>K y H:=rfl
theorem aQ4 {n:Nat} {agg:Bool} {x:Operand}:opD P (.ld n agg x) e H K=ldK n agg H (e x) fun y=>K y H:=rfl
theorem aLW {x:Operand}:opK P (.cbs x) e H K Kp=aF1 (rdS H 1 (e x)) fun y=>K y H:=rfl
theorem aQZ {x:Operand}:opK P (.bx x) e H K Kp=bxK (e x) H K:=rfl
theorem aQ0 {zero:List AV}:opK P (.al zero) e H K Kp=(zero.all AV.one=true/\lA (.ref H.length 0 0) (H++[.box zero]) K):=rfl
theorem aQW {n:Nat} {x v:Operand}:opK P (.st n x v) e H K Kp=stK n (e x) (e v) H K:=rfl
theorem aQ2 {n:Nat} {x v:Operand}:opD P (.st n x v) e H K=stK n (e x) (e v) H K:=rfl
theorem aLX {z len:Nat} {zero:AV} {ps:List (Nat×Operand)}:opK P (.bls z len zero ps) e H K Kp=aJ2 z len zero (ps.map fun p=>(p.1,e p.2)) H K:=by simp only [opK,CO.cls,bQ,aJ2,List.all_map,Function.comp_def];rfl
theorem aL8 {z len:Nat} {zero:AV} {ps:List (Nat×Operand)}:opD P (.bls z len zero ps) e H K=aJ2 z len zero (ps.map fun p=>(p.1,e p.2)) H K:=by simp only [opD,CO.cls,bQ,aJ2,List.all_map,Function.comp_def];rfl
theorem aLK {z b:Nat} {zero:AV} {x c:Operand}:opK P (.mks z b zero x c) e H K Kp=aU7 z b zero (e x) (e c) H K:=rfl
theorem aL1 {z b:Nat} {s x:Operand}:opK P (.app z b s x) e H K Kp=aKk z b (e s) (e x) (rdS H z (e s)) (rdS H z (e x)) H K:=by simp only [opK,oS,CO.cls,bQ,aKk,u5];rfl
theorem aMa {z b:Nat} {s x:Operand}:opD P (.app z b s x) e H K=aKk z b (e s) (e x) (rdS H z (e s)) (rdS H z (e x)) H K:=by simp only [opD,CO.cls,bQ,aKk,u5];rfl
theorem aHq {f:FuncId} {args:List Operand}:opK P (.call f args) e H K Kp=acK P f (args.map e) H K Kp:=rfl
theorem aHp {x:Operand} {args:List Operand}:opK P (.calv x args) e H K Kp=aJW P (e x) (args.map e) H K Kp:=by
 show iO e (.calv x args) (fun f args=>dK P f args H K Kp)=_
 simp only [iO,aJW]
 cases e x with
 | fn f a b=>cases f<;>rfl
 | _=>rfl
end eqs
inductive RV where
 | tm (t:Nat)
 | ce (t:Nat) (T:TypeId) (n:Nat) (agg:Bool)
def RV.var:RV->ResultVar
 | .tm t=>.tmp t
 | .ce t T _ _=>.cell t T
def RV.okL (P:Program):List RV->Prop
 | []=>True
 | .tm _ :: l=>RV.okL P l
 | .ce t T n agg :: l=>eU P ⟨none,.load T (.tmp t),0, "",#[],none⟩=some (.ld n agg (.tmp t))/\RV.okL P l
def rF (H:List AO) (r:Nat->AV):List RV->(List AV->Prop)->Prop
 | [],K=>K []
 | .tm t :: l,K=>rF H r l fun ys=>K (r t :: ys)
 | .ce t T n agg :: l,K=>ldK n agg H (r t) fun y=>rF H r l fun ys=>K (y :: ys)
def xY (ys:List AV):AV :=
 match ys with
 | [y]=>y
 | l=>.tup l
def oN (rs:List RV) (Post:AV->List AO->Prop):AE->St->Prop
 | .exit _,_=>False
 | .pan _,_=>False
 | _,s=>rF s.H s.r.get rs fun ys=>Post (xY ys) s.H
theorem aG0 {rs:List RV} {Post:AV->List AO->Prop} {s:St}:oN rs Post .ret s=rF s.H s.r.get rs fun ys=>Post (xY ys) s.H:=rfl
theorem aG2 {H:List AO} {r:Nat->AV} {K:List AV->Prop}:rF H r [] K=K []:=rfl
theorem aQz {H:List AO} {r:bX} {t:Nat} {l:List RV} {K:List AV->Prop}:rF H r.get (.tm t :: l) K=rF H r.get l fun ys=>K (r.get t :: ys):=rfl
theorem aQA {H:List AO} {r:bX} {t n:Nat} {T:TypeId} {agg:Bool} {l:List RV} {K:List AV->Prop}:rF H r.get (.ce t T n agg :: l) K=ldK n agg H (r.get t) fun y=>rF H r.get l fun ys=>K (y :: ys):=rfl
theorem aHz {y:AV}:xY [y]=y:=rfl
theorem aHy {x y:AV} {l:List AV}:xY (x :: y :: l)= .tup (x :: y :: l):=rfl
def aAL (tmps:Array Value):ResultVar->Sem Value
 | .tmp t=>pure (tmps.getD t undef)
 | .cell t type=>do loadVar type (<- asAddr (tmps.getD t undef))
theorem z8 {fn:Func} {tmps:Array Value}:results fn tmps=(do
 let vs <- fn.results.mapM (aAL tmps)
 if h:vs.size=1 then pure vs[0] else pure (.tuple vs)):=by
 unfold results
 congr 1
 funext vs
 split<;>rfl
theorem aIV {P:Program} {E:Env} {H:List AO} {a:Act} {r:bX} {t n:Nat} {T:TypeId} {agg:Bool} {K:AV->Prop} (hc:eU P ⟨none,.load T (.tmp t),0, "",#[],none⟩=some (.ld n agg (.tmp t))) (hm:HM E H) (hv:∀ q,E.VR H.length (a.tmps.getD q undef) (r.get q))
 (h:ldK n agg H (r.get t) K):∃ v y,(aAL a.tmps (.cell t T)).run P E.w= .ok v E.w/\E.VR H.length v y/\K y:=by
 have m:Match ⟨a.tmps.size,a.defers⟩ E r.get H a:=⟨hm,hv,rfl,rfl⟩
 have hl:cP (.ld n agg (.tmp t)) (Ab.ev r.get) H K:=by
  have e:=aHn (P:=P) (n:=n) (agg:=agg) (x:=.tmp t) (e:=Ab.ev r.get) (H:=H) (K:=fun y _=>K y) (Kp:=fun _ _=>False)
  show opK P (.ld n agg (.tmp t)) (Ab.ev r.get) H (fun y _=>K y) fun _ _=>False
  rw [e]
  exact h
 obtain ⟨v,y,hr,hvr,hk⟩:=(xI hc m).1 hl
 have hx:=hv t
 have hnt:∃ A,a.tmps.getD t undef= .pointer (some A):=by
  generalize hrt:r.get t=rt at hx h
  cases rt<;>simp only [ldK] at h
  case ref id i o=>obtain ⟨L,_,_,hp⟩:=hx.mY;exact ⟨_,hp⟩
  case ip tt cs =>
   generalize a.tmps.getD t undef=u at hx ⊢
   cases hx
   exact ⟨_,rfl⟩
 obtain ⟨A,hp⟩:=hnt
 refine ⟨v,y,?_,hvr,hk⟩
 have e1:a.eval (.tmp t)=a.tmps.getD t undef:=rfl
 simp only [execOp,e1,hp,Instr.loadAt,Instr.sureAddr,pure_bind,Sem.run_bind] at hr
 generalize hq:(loadVar T A).run P E.w=q at hr
 have hq2:q= .ok v E.w:=by
  cases q with
  | ok v' w'=>simpa using hr
  | halt=>simp at hr
 simp only [aAL,hp,asAddr,pure_bind,hq,hq2]
theorem sL {P:Program} {E:Env} {H:List AO} {a:Act} {r:bX} (hm:HM E H) (hv:∀ q,E.VR H.length (a.tmps.getD q undef) (r.get q)):∀ (rs:List RV) (K:List AV->Prop),RV.okL P rs->rF H r.get rs K ->
 ∃ vs ys,(List.mapM (aAL a.tmps) (rs.map RV.var)).run P E.w= .ok vs E.w/\vs.length=ys.length/\(∀ k y,ys[k]?=some y->E.VR H.length (vs.getD k undef) y)/\K ys
 | [],K,_,h=>⟨[],[],by simp,rfl,fun k y hk=>by simp at hk,h⟩
 | .tm t :: l,K,ho,h=>by
   obtain ⟨vs,ys,h1,h2,h3,h4⟩:=sL hm hv l _ ho h
   refine ⟨a.tmps.getD t undef :: vs,r.get t :: ys,?_,by simp [h2],fun k y hk=>?_,h4⟩
   · rw [List.map_cons,List.mapM_cons]
     simp only [RV.var,aAL,pure_bind,Sem.run_bind]
     have h1':(List.mapM (aAL a.tmps) (l.map RV.var)).run P E.w= .ok vs E.w:=h1
     rw [h1',Result.andThen_ok,Sem.run_pure]
   · cases k with
     | zero=>simp at hk;subst hk;exact hv t
     | succ k=>simpa using h3 k y (by simpa using hk)
 | .ce t T n agg :: l,K,ho,h=>by
   obtain ⟨v,y,g1,g2,g3⟩:=aIV (a:=a) ho.1 hm hv h
   obtain ⟨vs,ys,h1,h2,h3,h4⟩:=sL hm hv l _ ho.2 g3
   refine ⟨v :: vs,y :: ys,?_,by simp [h2],fun k y' hk=>?_,h4⟩
   · rw [List.map_cons,List.mapM_cons]
     simp only [Sem.run_bind]
     have g1':(aAL a.tmps (RV.ce t T n agg).var).run P E.w= .ok v E.w:=g1
     rw [g1',Result.andThen_ok,h1,Result.andThen_ok,Sem.run_pure]
   · cases k with
     | zero=>simp at hk;subst hk;exact g2
     | succ k=>simpa using h3 k y' (by simpa using hk)
theorem aQy {P:Program} {fn:Func} {rs:List RV} (hr:fn.results=(rs.map RV.var).toArray) (ho:RV.okL P rs) {E:Env} {H:List AO} {a:Act} {r:bX} (hm:HM E H) (hv:∀ q,E.VR H.length (a.tmps.getD q undef) (r.get q)) {K:AV->Prop}
 (h:rF H r.get rs fun ys=>K (xY ys)):∃ v y,(results fn a.tmps).run P E.w= .ok v E.w/\E.VR H.length v y/\K y:=by
 obtain ⟨vs,ys,h1,h2,h3,h4⟩:=sL hm hv rs _ ho h
 refine ⟨if h:vs.length=1 then vs[0] else .tuple vs.toArray,xY ys,?_,?_,h4⟩
 · rw [z8,hr,List.mapM_toArray]
   simp only [map_eq_pure_bind,bind_assoc,Sem.run_bind,h1,Result.andThen_ok,pure_bind,List.size_toArray]
   split<;>simp
 · match vs,ys,h2,h3 with
   | [],[],_,_=>exact .tup (vs:=[]) rfl (fun k y hk=>by simp at hk)
   | [v],[y],_,h3=>simpa [xY] using h3 0 y rfl
   | v :: u :: l,y :: z :: m,h2,h3 =>
     rw [dif_neg (by simp)]
     exact .tup h2 h3
structure aX (P:Program) (f:FuncId) (cc:CC) (rs:List RV) (N:Nat):Prop where
 mix:P.follows .mixedOrders=true
 is:∃ fn body,P.funcs[f]?=some fn/\fn.body=some body/\(fn.name== "runtime.NumGoroutine")=false/\comp P body=some cc.bare/\cc.fits N=true/\fn.ntmps=N/\fn.results=(rs.map RV.var).toArray
 ok:RV.okL P rs
theorem aGc {P:Program} {f:FuncId} {cc:CC} {rs:List RV} {N:Nat} {args:List AV} {H:List AO} {Post:AV->List AO->Prop} (hf:aX P f cc rs N) (hn:args.length<=N) (hb:cc.base H.length=true)
 (h:aw P cc (oN rs Post) ⟨lX 0 args,H⟩):aW P f args H Post:=by
 obtain ⟨hmix,⟨fn,body,h1,h2,h3,h4,h5,h6,h7⟩,hok⟩:=hf
 refine ⟨by simp [mQ,h1,h2,h3],fun E vs hm hl hv=>?_⟩
 refine calls_of_wp h1 h2 ?_
 refine tL (N:=⟨N,[]⟩) (m0:=H.length) hmix body cc _ _ E _ _ h4 h5 hb (Nat.le_refl _) h (h6 ▸ aAD hm hl (by omega) hv) ?_
 intro e v0 a' E' s' m t hv0 q
 have fin:rF s'.H s'.r.get rs (fun ys=>Post (xY ys) s'.H)->a'.defers=[]/\∃ v,(results fn a'.tmps).run P E'.w= .ok v E'.w/\∃ v' y H' E'',Ending.returned v= .returned v'/\E''.w=E'.w/\E''.VR H'.length v' y/\HM E'' H'/\Trans E H.length E'' H'.length/\Post y H':=fun q=>by
  obtain ⟨v,y,g1,g2,g3⟩:=aQy (K:=fun y=>Post y s'.H) h7 hok m.hm m.regs q
  exact ⟨m.defers,v,g1,v,y,s'.H,E',rfl,rfl,g2,m.hm,t,g3⟩
 cases e with
 | normal=>exact fin q
 | ret=>exact fin q
 | exit id=>exact q.elim
 | pan x=>exact q.elim
theorem aO {P:Program} {f:FuncId} {cc:CC} {rs:List RV} {N:Nat} {args:List AV} {Post:AV->List AO->Prop} (hf:aX P f cc rs N) (hn:args.length<=N)
 (h:aw P cc (oN rs Post) ⟨lX 0 args,[]⟩):aW P f args [] Post:=aGc hf hn cc.eJ h
def Wk2 (r y:AV):Prop:=Wk1 r y∨∃ cs ds,r= .agg cs/\y= .agg ds/\WkL cs ds
def WkT:List AV->List AV->Prop
 | [],[]=>True
 | r :: rs,y :: ys=>Wk2 r y/\WkT rs ys
 | _,_=>False
def Wk3 (r y:AV):Prop:=Wk2 r y∨∃ rs ys,r= .tup rs/\y= .tup ys/\WkT rs ys
theorem Wk1.one {r y:AV} (h:Wk1 r y) (hr:r.one=true):y.one=true:=by
 rcases h with rfl|⟨rfl,t,z,rfl⟩
 · exact hr
 · rfl
theorem Wk2.vr {r y:AV} (h:Wk2 r y) {E:Env} {n:Nat} {v:Value} (hv:E.VR n v r):E.VR n v y:=by
 rcases h with h|⟨cs,ds,rfl,rfl,h⟩
 · exact h.vr hv
 · cases hv with
   | agg hl h1 hk =>
     refine .agg (hl.trans h.len) (fun a ha=>?_) fun k y hy=>?_
     · obtain ⟨k,hk⟩:=List.mem_iff_getElem?.1 ha
       obtain ⟨r,g1,g2⟩:=h.get k a hk
       exact g2.one (h1 r (List.mem_of_getElem? g1))
     · obtain ⟨r,g1,g2⟩:=h.get k y hy
       exact g2.vr (hk k r g1)
theorem WkT.len:∀ {rs ys:List AV},WkT rs ys->rs.length=ys.length
 | [],[],_=>rfl
 | r :: rs,y :: ys,h=>by simp [WkT.len h.2]
 | [],y :: ys,h=>h.elim
 | r :: rs,[],h=>h.elim
theorem WkT.get:∀ {rs ys:List AV},WkT rs ys->∀ (k:Nat) (y:AV),ys[k]?=some y->∃ r,rs[k]?=some r/\Wk2 r y
 | [],[],_,k,y,h=>by simp at h
 | r :: rs,q :: ys,h,0,y,hk=>by simp at hk;subst hk;exact ⟨r,rfl,h.1⟩
 | r :: rs,q :: ys,h,k+1,y,hk=>by simpa using WkT.get h.2 k y (by simpa using hk)
 | [],y :: ys,h,_,_,_=>h.elim
 | r :: rs,[],h,_,_,_=>h.elim
theorem Wk3.vr {r y:AV} (h:Wk3 r y) {E:Env} {n:Nat} {v:Value} (hv:E.VR n v r):E.VR n v y:=by
 rcases h with h|⟨rs,ys,rfl,rfl,h⟩
 · exact h.vr hv
 · obtain ⟨vs,rfl,hl,hk⟩:=hv.mU
   refine .tup (hl.trans h.len) fun k y hy=>?_
   obtain ⟨r,h1,h2⟩:=h.get k y hy
   exact h2.vr (hk k r h1)
theorem aT.wk3 {P:Program} {f:FuncId} {args:List AV} {y:AV} (h:aW P f args [] fun r _=>Wk3 r y):aT P f args y :=
 ⟨h.1,fun E vs hm hl hv=>(h.2 E vs hm hl hv).mono fun e w' ⟨v,y',H',E',h1,h2,h3,h4,h5,h6⟩=>⟨v,y,H',E',h1,h2,h6.vr h3,h4,h5,rfl⟩⟩
theorem Vw.wk {aM:Bool} {H:List AO} {a a':AV} (h:Wk3 a a') (ha:a'.low=true):Vw aM H a a':=fun G E v hm hv=>Vw.refl ha G E v hm (h.vr hv)
theorem aW.frz {P:Program} {f:FuncId} {args:List AV} {H:List AO} {Post Post':AV->List AO->Prop} (h:aW P f args H Post)
 (hk:∀ y G,Post y G->∃ id z l,G[id]?=some (.arr z l)/\Post' (y.fz id z l) (G.set id .dead)):aW P f args H Post' :=
 ⟨h.1,fun E vs hm hl hv=>(h.2 E vs hm hl hv).mono fun e w' ⟨v,y,H',E',h1,h2,h3,h4,h5,h6⟩=>by
   obtain ⟨id,z,l,k1,k2⟩:=hk _ _ h6
   obtain ⟨g1,g2,g3,g4⟩:=oC h4 k1
   refine ⟨v,y.fz id z l,H'.set id .dead,E'.jI id,h1,?_,?_,g1,?_,k2⟩
   · rw [<- h2];first|exact g2|exact g3|exact g4|rfl
   · rw [List.length_set]
     exact aIv h4 k1 h3
   · rw [List.length_set]
     refine h5.iQ (Trans.cut ?_ h5.num)
     first|exact g2|exact g3|exact g4⟩
structure Mk where
 gc:Nat:=0
 ty:List (Bool×Nat):=[]
 fz:List (Bool×Nat×List Nat):=[]
 fs:Bool:=true
def aMN (n:Nat):List Nat->List Nat
 | []=>[n]
 | k :: l=>if n<k then n :: k :: l else if n=k then k :: l else k :: aMN n l
def aGv (a b:List Nat):List Nat:=a.foldl (fun l n=>aMN n l) b
def tmO:Operand->List Nat
 | .tmp t=>[t]
 | _=>[]
def aP.aYl (o:aP):List Nat:=o.op.ops.flatMap tmO++(match o.guard with
 | some (g,_)=>[g]
 | none=>[])
def aBJ (ops:List aP) (out:List Nat):List Nat:=ops.foldr (fun o L=>aGv o.aYl (match o.dst with
 | some d=>L.filter (· !=d)
 | none=>L)) out
def aH8:OT->List Nat->List Nat
 | .fin l,out=>aBJ l out
 | .pre l a b,out=>aBJ l (aGv (aH8 a out) (aH8 b out))
def aM1 (f:List Nat->List Nat):Nat->List Nat->List Nat
 | 0,H=>H
 | n+1,H=>let L:=f H;if L.all H.contains then H else aM1 f n (aGv L H)
def nP:CC->List Nat->List (Nat×List Nat)->List Nat->List Nat
 | .skip,out,_,_=>out
 | .reg l _ _ _,out,_,_=>aBJ l out
 | .sch t _ _ _,out,_,_=>aH8 t out
 | .seq a b,out,env,res=>nP a (nP b out env res) env res
 | .cond c t e,out,env,res=>aGv (tmO c) (aGv (nP t out env res) (nP e out env res))
 | .block _ id b,out,env,res=>nP b out ((id,out) :: env) res
 | .loop _ _ b,_,env,res=>nP b (aM1 (fun H=>nP b H env res) 9 []) env res
 | .exit id,_,env,_=>(env.find? (·.1==id)).elim [] (·.2)
 | .ret,_,_,res=>res
 | _,out,_,_=>out
def isApp:CO->Bool
 | .app _ _ _ _| .apz _ _ _ _ _=>true
 | _=>false
def aA8:CC->List aP
 | .reg l _ _ _=>l
 | .sch t _ _ _=>t.opers
 | .seq a b=>aA8 a++aA8 b
 | .cond _ t e=>aA8 t++aA8 e
 | .block _ _ b=>aA8 b
 | .loop _ _ b=>aA8 b
 | _=>[]
def lvs (c:CC):List Nat :=
 let l:=aA8 c
 let ap:=l.filterMap fun o=>if isApp o.op then o.dst else none
 l.filterMap fun o=>match o.op with
   | .mv (.tmp t)=>if ap.contains t then o.dst else none
   | _=>none
def aSu (lv:List Nat) (ops:List aP) (o:aP):List Nat :=
 match o.op,o.guard with
 | .st 1 _ (.tmp x),none=>if ops.any fun q=>q.dst==some x&&(isApp q.op||match q.op with
     | .mv (.tmp t)=>lv.contains t
     | _=>false) then [x] else []
 | _,_=>[]
def aMV:AV->Bool
 | .agg l=>l.any fun a=>match a with
   | .aD=>true
   | _=>false
 | .aD=>true
 | _=>false
def aXZ (o:aP):List Nat :=
 match o.op with
 | .bls _ _ z ps=>if aMV z then (ps.flatMap fun p=>tmO p.2).foldl (fun l n=>aMN n l) [] else []
 | _=>[]
def aIG (m:Mk) (lv:List Nat):List aP->List aP->Nat->List (Nat×List Nat×Bool)
 | _,[],_=>[]
 | seen,o :: r,i =>
   let a:=(match aXZ o with
    | []=>[]
    | l=>[(i,l,false)])
   let b:=m.fz.filterMap fun p=>if o.dst==some p.2.1 then some (if p.1 then i+1 else i,p.2.2,false) else none
   let c:=if m.fs&&a.isEmpty then (match aSu lv seen o with
    | []=>[]
    | l=>[(i,l,false)]) else []
   let d:=m.ty.filterMap fun p=>if o.dst==some p.2 then some (if p.1 then i+1 else i,([]:List Nat),true) else none
   a++b++c++d++aIG m lv (o :: seen) r (i+1)
def aW6 (m:Mk) (fin out:List Nat):List (Nat×List Nat×Bool)->Nat->List aP->CC
 | [],_,l=>.reg l false fin (some out)
 | (i,fz,ty) :: r,k,l =>
   let x:=CC.reg (l.take (i-k)) false fz (some (aBJ (l.drop (i-k)) out))
   .cat (if ty then .tidy m.gc x else x) (aW6 m fin out r i (l.drop (i-k)))
def aVc:CC->Bool
 | .ret=>true
 | .seq .ret _=>true
 | _=>false
def aA6 (m:Mk) (lv res:List Nat):CC->List Nat->Bool->List (Nat×List Nat)->CC
 | .reg l true _ _,out,rt,_=>.reg l true (if rt then res else []) (some out)
 | .reg l false _ _,out,rt,_=>aW6 m (if rt then res else []) out (aIG m lv [] l 0) 0 l
 | .sch t d _ _,out,rt,_ =>
   if m.ty.any fun p=>p.1&&t.opers.any fun o=>o.dst==some p.2 then .tidy m.gc (.sch t d (if rt then res else []) (some out)) else .sch t d (if rt then res else []) (some out)
 | .seq a b,out,rt,env=>.seq (aA6 m lv res a (nP b out env res) (aVc b) env) (aA6 m lv res b out rt env)
 | .cond c t e,out,rt,env=>.cond c (aA6 m lv res t out rt env) (aA6 m lv res e out rt env)
 | .block _ id b,out,rt,env=>.block (some out) id (aA6 m lv res b out rt ((id,out) :: env))
 | .loop _ _ x,out,rt,env=>.loop m.gc (some (aM1 (fun H=>nP x H env res) 9 [])) (aA6 m lv res x (aM1 (fun H=>nP x H env res) 9 []) false env)
 | c,_,_,_=>c
def aZg (m:Mk) (res:List Nat) (c:CC):CC:=aA6 m (lvs c) res c (res.foldl (fun l n=>aMN n l) []) true []
def CC.aV:CC->List Nat->CC
 | c,[]=>c
 | .seq a _,0 :: p=>a.aV p
 | .seq _ b,1 :: p=>b.aV p
 | .cond _ a _,0 :: p=>a.aV p
 | .cond _ _ b,1 :: p=>b.aV p
 | .block _ _ b,_ :: p=>b.aV p
 | .loop _ _ b,_ :: p=>b.aV p
 | c,_=>c
def CC.aU:CC->List Nat->CC->CC
 | _,[],x=>x
 | .seq a b,0 :: p,x=>.seq (a.aU p x) b
 | .seq a b,1 :: p,x=>.seq a (b.aU p x)
 | .cond c a b,0 :: p,x=>.cond c (a.aU p x) b
 | .cond c a b,1 :: p,x=>.cond c a (b.aU p x)
 | .block k i b,_ :: p,x=>.block k i (b.aU p x)
 | .loop g k b,_ :: p,x=>.loop g k (b.aU p x)
 | c,_,_=>c
def tK (P:Program):Code->CC
 | .skip=>.skip
 | .region _ ops d=>.reg ((jS P ops ops.toList).getD []) d [] none
 | .seq a b=>.seq (tK P a) (tK P b)
 | .cond c a b=>.cond c (tK P a) (tK P b)
 | .block id b=>.block none id (tK P b)
 | .loop b=>.loop 0 none (tK P b)
 | .exit id=>.exit id
 | .ret=>.ret
 | _=>.bad
def aSM (P:Program) (b:Option Code):CC:=match b with
 | some c=>tK P c
 | none=>.bad
def aJ (P:Program) (f:Nat):CC :=
 match P.funcs[f]? with
 | some fn=>aSM P fn.body
 | none=>.bad
inductive HT where
 | f (l:List Nat)
 | p (l:List Nat) (a b:HT)
def hop (l:List aP) (i:Nat):aP :=
 match i / 1000,l.getD (i % 1000) default with
 | 1,⟨d,.ld n a x,g⟩=>⟨d,.ldp n a x,g⟩
 | 2,⟨d,.call f x,g⟩=>⟨d,.calf f x,g⟩
 | _,o=>o
def HT.ot (l:List aP):HT->OT
 | .f x=>.fin (x.map (hop l))
 | .p x a b=>.pre (x.map (hop l)) (a.ot l) (b.ot l)
def aYr (c:CC) (h:List (List Nat×HT)):CC:=h.foldl (fun c p=>c.aU p.1 (match c.aV p.1 with
 | .reg l _ _ _=>.sch (p.2.ot l) (p.2.ot l).p7 [] none
 | x=>x)) c
def aUq (P:Program) (f:Nat):List Nat :=
 match P.funcs[f]? with
 | some fn=>fn.results.toList.map fun r=>match r with
   | .tmp t=>t
   | .cell t _=>t
 | none=>[]
def bA (P:Program) (f:Nat) (m:Mk) (c:CC) (h:List (List Nat×HT)):CC:=aZg m (aUq P f) (aYr c h)
theorem iE {P:Program} (w:World) (tS tR e:TypeId) (ht:P.underlying tS=some (.slice e)) (size:Nat) (hz:∀ w,(Go.sizeOf e).run P w= .ok size w) (A B:Option Addr) (la ca lb cb:Nat) (h:la=0∨lb=0) :
 (Extern.SlicesOverlaps.overlaps #[tS,tS] #[tR] #[.slice A la ca,.slice B lb cb]).run P w= .ok (.bool false) w:=by
 have h0:la=0∨lb=0∨size=0:=by omega
 change Sem.run P (α:=Value) (do
  let some t:=(#[tS,tS]:Array TypeId)[0]?|stuck "slices.overlaps: no parameter types"
  let .slice elem <- underlying t|stuck "slices.overlaps: slice type expected"
  let size <- sizeOf elem
  match A,B with
  | some a,some b =>
    if la=0∨lb=0∨size=0 then pure (Value.bool false)
    else if a.block !=b.block&&(<- frozen a)&&(<- frozen b) then unsupported .addressObserved
    else do
     if a.block !=b.block then do
      noView a;noView b
      if <- mayBeOne a b then return Value.bool ((<- choose (.extern "sameAddr.stringBytes" 2))==1)
     pure (Value.bool (a.block==b.block&&a.off<b.off+lb*size&&b.off<a.off+la*size))
  | _,_=>pure (Value.bool false)) w=_
 cases A<;>cases B<;>simp [run_underlying ht,hz,h0]
theorem rZ {P:Program} {f:FuncId} {fn:Func} {tS tR el:TypeId} {z i j o1 n1 o2 n2:Nat} {H:List AO} {l m:List AV} {K:AV->List AO->Prop} (hf:P.funcs[f]?=some fn) (hname:(fn.name== "runtime.NumGoroutine")=false) (hb:fn.body.isNone=true)
 (hn:Extern.findNext fn=none) (he:Extern.find fn=some (Extern.SlicesOverlaps.overlaps #[tS,tS] #[tR])) (ht:P.underlying tS=some (.slice el)) (hi0:(P.info? el).isSome=true) (hz1:z≠1) (hz0:0<z)
 (hij:i≠j) (hi:H[i]?=some (.arr z l)) (hj:H[j]?=some (.arr z m)) (hk:K (.bool false) H):zN P f [.own i z o1 n1,.own j z o2 n2] H K:=by
 intro E vs hm hl hv
 obtain ⟨ii,hii⟩:=Option.isSome_iff_exists.1 hi0
 have hsz:∀ w,(sizeOf el).run P w= .ok (P.cellsOf el) w:=fun w=>by rw [run_sizeOf _ hii]
 match vs,hl with
 | [v1,v2],_ =>
   have h1:E.VR H.length v1 (.own i z o1 n1):=hv 0 _ rfl
   have h2:E.VR H.length v2 (.own j z o2 n2):=hv 1 _ rfl
   refine ⟨.bool false,_,E,H,?_,.bool,hm,Trans.refl _ _,hk⟩
   rw [run_callFunc_extern hf hname hb hn he]
   have key:(Extern.SlicesOverlaps.overlaps #[tS,tS] #[tR] #[v1,v2]).run P E.w= .ok (.bool false) E.w:=by
    obtain ⟨_,⟨A,rfl,rfl,_⟩|⟨L,c,hL,hLz,rfl,hlen,hcap⟩⟩:=h1.cN
    · obtain ⟨_,⟨B,rfl,rfl,_⟩|⟨L',c',hL',hLz',rfl,hlen',hcap'⟩⟩:=h2.cN
      · exact iE E.w tS tR el ht _ hsz _ _ _ _ _ _ (.inl rfl)
      · exact iE E.w tS tR el ht _ hsz _ _ _ _ _ _ (.inl rfl)
    · obtain ⟨_,⟨B,rfl,rfl,_⟩|⟨L',c',hL',hLz',rfl,hlen',hcap'⟩⟩:=h2.cN
      · exact iE E.w tS tR el ht _ hsz _ _ _ _ _ _ (.inr rfl)
      · by_cases h0:n1=0∨n2=0
        · exact iE E.w tS tR el ht _ hsz _ _ _ _ _ _ h0
        · rcases hm.obj i _ hi with ⟨g1,_⟩|⟨M,u,t,fz,g1,g2,g3,g4,g5,g6,g7,g8,g9,g10,g11⟩
          · rw [hL] at g1;cases g1
          rcases hm.obj j _ hj with ⟨k1,_⟩|⟨M',u',t',fz',k1,k2,k3,k4,k5,k6,k7,k8,k9,k10,k11⟩
          · rw [hL'] at k1;cases k1
          rw [hL] at g1
          cases g1
          rw [hL'] at k1
          cases k1
          have hfz:fz.1=fz.2:=by
           rcases g11 with g|g
           · exact absurd g hz1
           · exact g
          have hc1:0<(o2+c')*z:=Nat.mul_pos (by omega) hz0
          have hfro:∀ k,E.w.frozen? ⟨L.b,k,none⟩=false:=fun k=>by
           simp only [World.frozen?,g5]
           have:¬ (fz.1<=k/\k<fz.2):=by omega
           simp
           omega
          exact Lib.run_overlaps_apart E.w tS tR el ht _ hsz _ _ _ _ _ _ (hm.inj i j _ _ L L' hij hi hj rfl rfl hL hL') t t' u.size u'.size (by simp [World.shape?,g5]) (by simp [World.shape?,k5]) (by omega) (hfro _) (hfro _)
   have hkey:(Extern.SlicesOverlaps.overlaps #[tS,tS] #[tR] [v1,v2].toArray).run P E.w= .ok (.bool false) E.w:=key
   rw [hkey]
   rfl
end Go.Ab
