/- A part of a proof: what functions of the program compute. No condition. -/
import Derived.Test.YtakemdamegfcfaaGreatT6
import Derived.Test.YtakemdamegfcfaaGreatT8
set_option linter.unusedSimpArgs false
set_option linter.unusedVariables false
set_option maxRecDepth 20000
namespace Go.Proofs.YtakemdamegfcfaaGreat
open Go Go.Ab
def I64 (x:Int):AV:=.int .i64 x
def cB (a:Node):List AV:=[.int .i64 a.id,.int .i64 a.label,.int .i64 a.rack,.int .i64 a.mem,.int .i64 a.cores,.int .i64 a.seen,.int .i64 a.beat,.bool a.up]
def bO (a:Node):AV:=.agg (cB a)
theorem aAl {a:Node}:(bO a).cells=cB a:=rfl
theorem aHO {a:Node}:(cB a).length=8:=rfl
theorem aHM {a:Node}:(cB a).all AV.one=true:=rfl
theorem aMs {a:Node}:(cB a).all AV.ok=true:=rfl
theorem aHQ {a:Node}:partOf (cB a) 0 8 true=bO a:=rfl
theorem aFd {a:Node}:(cB a).drop 8=[]:=rfl
theorem aRj {a:Node}:partOf (cB a) 0 1 false= .int .i64 a.id:=rfl
theorem aRi {a:Node}:partOf (cB a) 1 1 false= .int .i64 a.label:=rfl
theorem aRh {a:Node}:partOf (cB a) 2 1 false= .int .i64 a.rack:=rfl
theorem aRg {a:Node}:partOf (cB a) 3 1 false= .int .i64 a.mem:=rfl
theorem aRf {a:Node}:partOf (cB a) 4 1 false= .int .i64 a.cores:=rfl
theorem aRe {a:Node}:partOf (cB a) 6 1 false= .int .i64 a.beat:=rfl
theorem aRd {a:Node}:partOf (cB a) 7 1 false= .bool a.up:=rfl
theorem aMt {a:Node}:partOf (cB a) 3 2 true= .agg [.int .i64 a.mem,.int .i64 a.cores]:=rfl
theorem aHN {P:Program} {d:Bool} {t:Nat} {l:List aP} {r:bX} {L:St->Prop} {Lp:AV->St->Prop} {a:Node} {H:List AO}:nxt P d t l r L Lp (bO a) H=cF P d l ⟨(t,bO a) :: r,H⟩ L Lp:=rfl
theorem aMr {a:Node} {ρ:Nat->Option Nat}:AV.roL ρ (cB a)=cB a:=rfl
theorem aMz {a:Node} {ρ:Nat->Option Nat} {n:Nat}:AV.boL ρ n (cB a)=true:=rfl
attribute [simp] aMr aMz
theorem aHP {l:List Node} {i:Nat} (h:i<l.length):(l.map bO).getD i .top=bO l[i]:=by simp [List.getD_eq_getElem?_getD,h]
theorem aHI {l:List Node} {i:Nat} {x:Node}:(l.map bO).set i (dS ((l.map bO).getD i .top) 0 8 (cB x))=(l.set i x).map bO:=by
 by_cases h:i<l.length
 · rw [aHP h,List.map_set];rfl
 · rw [List.set_eq_of_length_le (by simp;omega),List.set_eq_of_length_le (by omega)]
set_option linter.defProp false in
def lV:=ai @aAl<|ai @aHO<|ai @aHM<|ai @aMs<|ai @aHQ<|ai @aFd<|ai @aRj<|ai @aRi<|ai @aRh<|ai @aRg<|ai @aRf<|ai @aRe<|ai @aRd<|ai @aMt<| @aHN
theorem aMy {a:Node}:partOf (List.drop 1 (cB a)) 0 1 false= .int .i64 a.label:=rfl
theorem aHL {a:Node} {v:Int}:List.take 5 (cB a)++[.int .i64 v]++List.drop 6 (cB a)=cB { a with seen:=v }:=rfl
theorem aMx {a:Node}:partOf (List.drop 5 (cB a)) 0 1 false= .int .i64 a.seen:=rfl
theorem aHK {a:Node} {v:Int}:List.take 6 (cB a)++[.int .i64 v]++List.drop 7 (cB a)=cB { a with beat:=v }:=rfl
theorem aMw {a:Node}:partOf (List.drop 6 (cB a)) 0 1 false= .int .i64 a.beat:=rfl
theorem aHJ {a:Node} {v:Bool}:List.take 7 (cB a)++[.bool v]=cB { a with up:=v }:=rfl
theorem aMv {a:Node}:partOf (List.drop 7 (cB a)) 0 1 false= .bool a.up:=rfl
theorem aMu {a:Node}:partOf (List.drop 3 (cB a)) 0 2 true= .agg [.int .i64 a.mem,.int .i64 a.cores]:=rfl
set_option linter.defProp false in
def aU2:=ai @aHL<|ai @aHK<| @aHJ
set_option linter.defProp false in
def aBC:=ai @aMy<|ai @aMx<|ai @aMw<|ai @aMv<| @aMu
def mP (a:Cap):List AV:=[.int .i64 a.least,.int .i64 a.most]
def CAP (a:Cap):AV:=.agg (mP a)
theorem aF3 {a:Cap}:(CAP a).cells=mP a:=rfl
theorem aNr {a:Cap}:(mP a).length=2:=rfl
theorem aNp {a:Cap}:(mP a).all AV.one=true:=rfl
theorem aST {a:Cap}:(mP a).all AV.ok=true:=rfl
theorem aNt {a:Cap}:partOf (mP a) 0 2 true=CAP a:=rfl
theorem aXX {a:Cap}:partOf (mP a) 0 1 false= .int .i64 a.least:=rfl
theorem aXW {a:Cap}:partOf (mP a) 1 1 false= .int .i64 a.most:=rfl
theorem aNq {P:Program} {d:Bool} {t:Nat} {l:List aP} {r:bX} {L:St->Prop} {Lp:AV->St->Prop} {a:Cap} {H:List AO}:nxt P d t l r L Lp (CAP a) H=cF P d l ⟨(t,CAP a) :: r,H⟩ L Lp:=rfl
theorem aSS {a:Cap} {ρ:Nat->Option Nat}:AV.roL ρ (mP a)=mP a:=rfl
theorem aSV {a:Cap} {ρ:Nat->Option Nat} {n:Nat}:AV.boL ρ n (mP a)=true:=rfl
attribute [simp] aSS aSV
theorem aNs {l:List Cap} {i:Nat} (h:i<l.length):(l.map CAP).getD i .top=CAP l[i]:=by simp [List.getD_eq_getElem?_getD,h]
theorem aNn {l:List Cap} {i:Nat} {x:Cap}:(l.map CAP).set i (dS ((l.map CAP).getD i .top) 0 2 (mP x))=(l.set i x).map CAP:=by
 by_cases h:i<l.length
 · rw [aNs h,List.map_set];rfl
 · rw [List.set_eq_of_length_le (by simp;omega),List.set_eq_of_length_le (by omega)]
set_option linter.defProp false in
def aXY:=ai @aF3<|ai @aNr<|ai @aNp<|ai @aST<|ai @aNt<|ai @aXX<|ai @aXW<|ai @aNq<| @aNn
theorem aNo {a:Cap} {v:Int}: .int .i64 v :: List.drop 1 (mP a)=mP { a with least:=v }:=rfl
theorem aSU {a:Cap}:partOf (List.drop 1 (mP a)) 0 1 false= .int .i64 a.most:=rfl
set_option linter.defProp false in
def aY5:=@aNo
set_option linter.defProp false in
def aY7:=@aSU
def jU (a:Queue):List AV:=[.str a.path,.sl false 2 (a.caps.map CAP),.int .i64 a.user]
def QUE (a:Queue):AV:=.agg (jU a)
theorem aE6 {a:Queue}:(QUE a).cells=jU a:=rfl
theorem aLb {a:Queue}:(jU a).length=3:=rfl
theorem aK9 {a:Queue}:(jU a).all AV.one=true:=rfl
theorem aQD {a:Queue}:(jU a).all AV.ok=true:=rfl
theorem aLd {a:Queue}:partOf (jU a) 0 3 true=QUE a:=rfl
theorem aUv {a:Queue}:partOf (jU a) 0 1 false= .str a.path:=rfl
theorem aUu {a:Queue}:partOf (jU a) 1 1 false= .sl false 2 (a.caps.map CAP):=rfl
theorem aUt {a:Queue}:partOf (jU a) 2 1 false= .int .i64 a.user:=rfl
theorem aLa {P:Program} {d:Bool} {t:Nat} {l:List aP} {r:bX} {L:St->Prop} {Lp:AV->St->Prop} {a:Queue} {H:List AO}:nxt P d t l r L Lp (QUE a) H=cF P d l ⟨(t,QUE a) :: r,H⟩ L Lp:=rfl
theorem aQC {a:Queue} {ρ:Nat->Option Nat}:AV.roL ρ (jU a)=jU a:=rfl
theorem aQF {a:Queue} {ρ:Nat->Option Nat} {n:Nat}:AV.boL ρ n (jU a)=true:=rfl
attribute [simp] aQC aQF
theorem aLc {l:List Queue} {i:Nat} (h:i<l.length):(l.map QUE).getD i .top=QUE l[i]:=by simp [List.getD_eq_getElem?_getD,h]
theorem aQB {l:List Queue} {i:Nat} {v:List Cap}:(l.map QUE).set i (dS ((l.map QUE).getD i .top) 1 1 [.sl false 2 (v.map CAP)])=(l.set i { l.getD i default with caps:=v }).map QUE:=by
 by_cases h:i<l.length
 · rw [aLc h,List.map_set,List.getD_eq_getElem?_getD,List.getElem?_eq_getElem h];rfl
 · rw [List.set_eq_of_length_le (by simp;omega),List.set_eq_of_length_le (by omega)]
set_option linter.defProp false in
def aYv:=ai @aE6<|ai @aLb<|ai @aK9<|ai @aQD<|ai @aLd<|ai @aUv<|ai @aUu<|ai @aUt<|ai @aLa<| @aQB
theorem aK8 {a:Queue} {v:List Cap}:List.take 1 (jU a)++[.sl false 2 (v.map CAP)]++List.drop 2 (jU a)=jU { a with caps:=v }:=rfl
theorem aQE {a:Queue}:partOf (List.drop 1 (jU a)) 0 1 false= .sl false 2 (a.caps.map CAP):=rfl
set_option linter.defProp false in
def aYu:=@aK8
set_option linter.defProp false in
def aYw:=@aQE
def fC (a:Ask):List AV:=[.int .i64 a.prio,.int .i64 a.label,.int .i64 a.mem,.int .i64 a.cores,.int .i64 a.count,.int .i64 a.node,.int .i64 a.rack,.int .i64 a.missed]
def ASK (a:Ask):AV:=.agg (fC a)
theorem aF8 {a:Ask}:(ASK a).cells=fC a:=rfl
theorem aNI {a:Ask}:(fC a).length=8:=rfl
theorem aNG {a:Ask}:(fC a).all AV.one=true:=rfl
theorem aS6 {a:Ask}:(fC a).all AV.ok=true:=rfl
theorem aNK {a:Ask}:partOf (fC a) 0 8 true=ASK a:=rfl
theorem aKb {a:Ask}:(fC a).drop 8=[]:=rfl
theorem aX9 {a:Ask}:partOf (fC a) 0 1 false= .int .i64 a.prio:=rfl
theorem aX8 {a:Ask}:partOf (fC a) 1 1 false= .int .i64 a.label:=rfl
theorem aX7 {a:Ask}:partOf (fC a) 2 1 false= .int .i64 a.mem:=rfl
theorem aX6 {a:Ask}:partOf (fC a) 3 1 false= .int .i64 a.cores:=rfl
theorem aX5 {a:Ask}:partOf (fC a) 4 1 false= .int .i64 a.count:=rfl
theorem aX4 {a:Ask}:partOf (fC a) 5 1 false= .int .i64 a.node:=rfl
theorem aX3 {a:Ask}:partOf (fC a) 6 1 false= .int .i64 a.rack:=rfl
theorem aX2 {a:Ask}:partOf (fC a) 7 1 false= .int .i64 a.missed:=rfl
theorem aS7 {a:Ask}:partOf (fC a) 2 2 true= .agg [.int .i64 a.mem,.int .i64 a.cores]:=rfl
theorem aNH {P:Program} {d:Bool} {t:Nat} {l:List aP} {r:bX} {L:St->Prop} {Lp:AV->St->Prop} {a:Ask} {H:List AO}:nxt P d t l r L Lp (ASK a) H=cF P d l ⟨(t,ASK a) :: r,H⟩ L Lp:=rfl
theorem aS5 {a:Ask} {ρ:Nat->Option Nat}:AV.roL ρ (fC a)=fC a:=rfl
theorem aTc {a:Ask} {ρ:Nat->Option Nat} {n:Nat}:AV.boL ρ n (fC a)=true:=rfl
attribute [simp] aS5 aTc
theorem aNJ {l:List Ask} {i:Nat} (h:i<l.length):(l.map ASK).getD i .top=ASK l[i]:=by simp [List.getD_eq_getElem?_getD,h]
theorem aS4 {l:List Ask} {i:Nat} {v:Int}:(l.map ASK).set i (dS ((l.map ASK).getD i .top) 7 1 [.int .i64 v])=(l.set i { l.getD i default with missed:=v }).map ASK:=by
 by_cases h:i<l.length
 · rw [aNJ h,List.map_set,List.getD_eq_getElem?_getD,List.getElem?_eq_getElem h];rfl
 · rw [List.set_eq_of_length_le (by simp;omega),List.set_eq_of_length_le (by omega)]
set_option linter.defProp false in
def aZc:=ai @aF8<|ai @aNI<|ai @aNG<|ai @aS6<|ai @aNK<|ai @aKb<|ai @aX9<|ai @aX8<|ai @aX7<|ai @aX6<|ai @aX5<|ai @aX4<|ai @aX3<|ai @aX2<|ai @aS7<|ai @aNH<| @aS4
theorem aTb {a:Ask}:partOf (List.drop 1 (fC a)) 0 1 false= .int .i64 a.label:=rfl
theorem aTa {a:Ask}:partOf (List.drop 2 (fC a)) 0 1 false= .int .i64 a.mem:=rfl
theorem aS9 {a:Ask}:partOf (List.drop 3 (fC a)) 0 1 false= .int .i64 a.cores:=rfl
theorem aNF {a:Ask} {v:Int}:List.take 4 (fC a)++[.int .i64 v]++List.drop 5 (fC a)=fC { a with count:=v }:=rfl
theorem aS8 {a:Ask}:partOf (List.drop 4 (fC a)) 0 1 false= .int .i64 a.count:=rfl
theorem aNE {a:Ask} {v:Int}:List.take 7 (fC a)++[.int .i64 v]=fC { a with missed:=v }:=rfl
set_option linter.defProp false in
def aZb:=ai @aNF<| @aNE
set_option linter.defProp false in
def aZd:=ai @aTb<|ai @aTa<|ai @aS9<| @aS8
def bI (a:App):List AV:=[.int .i64 a.id,.int .i64 a.state,.str a.queue,.int .i64 a.user,.int .i64 a.prio,.int .i64 a.mem,.int .i64 a.cores,.sl false 8 (a.asks.map ASK),.int .i64 a.seen,.int .i64 a.beat,.sl false 1 (a.grants.map I64),.sl false 1 (a.kills.map I64),.sl false 1 (a.told.map I64),.sl false 1 (a.lost.map I64)]
def APP (a:App):AV:=.agg (bI a)
theorem aF9 {a:App}:(APP a).cells=bI a:=rfl
theorem aNR {a:App}:(bI a).length=14:=rfl
theorem aNP {a:App}:(bI a).all AV.one=true:=rfl
theorem aTe {a:App}:(bI a).all AV.ok=true:=rfl
theorem aNU {a:App}:partOf (bI a) 0 14 true=APP a:=rfl
theorem aKj {a:App}:(bI a).drop 14=[]:=rfl
theorem aYh {a:App}:partOf (bI a) 0 1 false= .int .i64 a.id:=rfl
theorem app_1 {a:App}:partOf (bI a) 1 1 false= .int .i64 a.state:=rfl
theorem aYg {a:App}:partOf (bI a) 2 1 false= .str a.queue:=rfl
theorem aYf {a:App}:partOf (bI a) 3 1 false= .int .i64 a.user:=rfl
theorem aYe {a:App}:partOf (bI a) 4 1 false= .int .i64 a.prio:=rfl
theorem aYd {a:App}:partOf (bI a) 5 1 false= .int .i64 a.mem:=rfl
theorem aYc {a:App}:partOf (bI a) 6 1 false= .int .i64 a.cores:=rfl
theorem aYb {a:App}:partOf (bI a) 7 1 false= .sl false 8 (a.asks.map ASK):=rfl
theorem aYa {a:App}:partOf (bI a) 9 1 false= .int .i64 a.beat:=rfl
theorem aTo {a:App}:partOf (bI a) 10 1 false= .sl false 1 (a.grants.map I64):=rfl
theorem aTn {a:App}:partOf (bI a) 11 1 false= .sl false 1 (a.kills.map I64):=rfl
theorem aTm {a:App}:partOf (bI a) 12 1 false= .sl false 1 (a.told.map I64):=rfl
theorem aTl {a:App}:partOf (bI a) 13 1 false= .sl false 1 (a.lost.map I64):=rfl
theorem aTf {a:App}:partOf (bI a) 5 2 true= .agg [.int .i64 a.mem,.int .i64 a.cores]:=rfl
theorem aNQ {P:Program} {d:Bool} {t:Nat} {l:List aP} {r:bX} {L:St->Prop} {Lp:AV->St->Prop} {a:App} {H:List AO}:nxt P d t l r L Lp (APP a) H=cF P d l ⟨(t,APP a) :: r,H⟩ L Lp:=rfl
theorem aTd {a:App} {ρ:Nat->Option Nat}:AV.roL ρ (bI a)=bI a:=rfl
theorem aTk {a:App} {ρ:Nat->Option Nat} {n:Nat}:AV.boL ρ n (bI a)=true:=rfl
attribute [simp] aTd aTk
theorem aNS {a:App}:AV.ids (APP a)=[]:=rfl
theorem aNT {l:List App} {i:Nat} (h:i<l.length):(l.map APP).getD i .top=APP l[i]:=by simp [List.getD_eq_getElem?_getD,h]
theorem aNN {l:List App} {i:Nat} {x:App}:(l.map APP).set i (dS ((l.map APP).getD i .top) 0 14 (bI x))=(l.set i x).map APP:=by
 by_cases h:i<l.length
 · rw [aNT h,List.map_set];rfl
 · rw [List.set_eq_of_length_le (by simp;omega),List.set_eq_of_length_le (by omega)]
set_option linter.defProp false in
def aGa:=ai @aF9<|ai @aNR<|ai @aNP<|ai @aTe<|ai @aNU<|ai @aKj<|ai @aYh<|ai @app_1<|ai @aYg<|ai @aYf<|ai @aYe<|ai @aYd<|ai @aYc<|ai @aYb<|ai @aYa<|ai @aTo<|ai @aTn<|ai @aTm<|ai @aTl<|ai @aTf<|ai @aNQ<|ai @aNS<| @aNN
theorem aTj {a:App}:partOf (List.drop 1 (bI a)) 0 1 false= .int .i64 a.state:=rfl
theorem aTi {a:App}:partOf (List.drop 2 (bI a)) 0 1 false= .str a.queue:=rfl
theorem aNO {a:App} {v:List Ask}:List.take 7 (bI a)++[.sl false 8 (v.map ASK)]++List.drop 8 (bI a)=bI { a with asks:=v }:=rfl
theorem aTh {a:App}:partOf (List.drop 7 (bI a)) 0 1 false= .sl false 8 (a.asks.map ASK):=rfl
theorem aTg {a:App}:partOf (List.drop 8 (bI a)) 0 1 false= .int .i64 a.seen:=rfl
theorem aKi {a:App} {v:List Int}:List.take 10 (bI a)++[.sl false 1 (v.map I64)]++List.drop 11 (bI a)=bI { a with grants:=v }:=rfl
theorem aKh {a:App} {v:List Int}:List.take 11 (bI a)++[.sl false 1 (v.map I64)]++List.drop 12 (bI a)=bI { a with kills:=v }:=rfl
theorem aKg {a:App} {v:List Int}:List.take 12 (bI a)++[.sl false 1 (v.map I64)]++List.drop 13 (bI a)=bI { a with told:=v }:=rfl
theorem aKf {a:App} {v:List Int}:List.take 13 (bI a)++[.sl false 1 (v.map I64)]=bI { a with lost:=v }:=rfl
set_option linter.defProp false in
def aZe:=ai @aNO<|ai @aKi<|ai @aKh<|ai @aKg<| @aKf
set_option linter.defProp false in
def aZf:=ai @aTj<|ai @aTi<|ai @aTh<| @aTg
def cE (a:bD):List AV:=[.int .i64 a.id,.int .i64 a.app,.int .i64 a.node,.int .i64 a.mem,.int .i64 a.cores,.int .i64 a.prio,.int .i64 a.label,.bool a.master,.int .i64 a.notice]
def bY (a:bD):AV:=.agg (cE a)
theorem aAP {a:bD}:(bY a).cells=cE a:=rfl
theorem aIM {a:bD}:(cE a).length=9:=rfl
theorem aIK {a:bD}:(cE a).all AV.one=true:=rfl
theorem aNa {a:bD}:(cE a).all AV.ok=true:=rfl
theorem aIO {a:bD}:partOf (cE a) 0 9 true=bY a:=rfl
theorem aFW {a:bD}:(cE a).drop 9=[]:=rfl
theorem aSL {a:bD}:partOf (cE a) 0 1 false= .int .i64 a.id:=rfl
theorem aSK {a:bD}:partOf (cE a) 1 1 false= .int .i64 a.app:=rfl
theorem aSJ {a:bD}:partOf (cE a) 2 1 false= .int .i64 a.node:=rfl
theorem aSI {a:bD}:partOf (cE a) 3 1 false= .int .i64 a.mem:=rfl
theorem aSH {a:bD}:partOf (cE a) 6 1 false= .int .i64 a.label:=rfl
theorem aSG {a:bD}:partOf (cE a) 7 1 false= .bool a.master:=rfl
theorem aSF {a:bD}:partOf (cE a) 8 1 false= .int .i64 a.notice:=rfl
theorem aNb {a:bD}:partOf (cE a) 3 2 true= .agg [.int .i64 a.mem,.int .i64 a.cores]:=rfl
theorem aIL {P:Program} {d:Bool} {t:Nat} {l:List aP} {r:bX} {L:St->Prop} {Lp:AV->St->Prop} {a:bD} {H:List AO}:nxt P d t l r L Lp (bY a) H=cF P d l ⟨(t,bY a) :: r,H⟩ L Lp:=rfl
theorem aM9 {a:bD} {ρ:Nat->Option Nat}:AV.roL ρ (cE a)=cE a:=rfl
theorem aNj {a:bD} {ρ:Nat->Option Nat} {n:Nat}:AV.boL ρ n (cE a)=true:=rfl
attribute [simp] aM9 aNj
theorem aIN {l:List bD} {i:Nat} (h:i<l.length):(l.map bY).getD i .top=bY l[i]:=by simp [List.getD_eq_getElem?_getD,h]
theorem aM8 {l:List bD} {i:Nat} {v:Int}:(l.map bY).set i (dS ((l.map bY).getD i .top) 8 1 [.int .i64 v])=(l.set i { l.getD i default with notice:=v }).map bY:=by
 by_cases h:i<l.length
 · rw [aIN h,List.map_set,List.getD_eq_getElem?_getD,List.getElem?_eq_getElem h];rfl
 · rw [List.set_eq_of_length_le (by simp;omega),List.set_eq_of_length_le (by omega)]
set_option linter.defProp false in
def aIP:=ai @aAP<|ai @aIM<|ai @aIK<|ai @aNa<|ai @aIO<|ai @aFW<|ai @aSL<|ai @aSK<|ai @aSJ<|ai @aSI<|ai @aSH<|ai @aSG<|ai @aSF<|ai @aNb<|ai @aIL<| @aM8
theorem aIJ {a:bD} {v:Int}: .int .i64 v :: List.drop 1 (cE a)=cE { a with id:=v }:=rfl
theorem aNi {a:bD}:partOf (List.drop 1 (cE a)) 0 1 false= .int .i64 a.app:=rfl
theorem aNh {a:bD}:partOf (List.drop 2 (cE a)) 0 1 false= .int .i64 a.node:=rfl
theorem aNg {a:bD}:partOf (List.drop 3 (cE a)) 0 1 false= .int .i64 a.mem:=rfl
theorem aNf {a:bD}:partOf (List.drop 6 (cE a)) 0 1 false= .int .i64 a.label:=rfl
theorem aNe {a:bD}:partOf (List.drop 7 (cE a)) 0 1 false= .bool a.master:=rfl
theorem aNd {a:bD}:partOf (List.drop 8 (cE a)) 0 1 false= .int .i64 a.notice:=rfl
theorem aNc {a:bD}:partOf (List.drop 3 (cE a)) 0 2 true= .agg [.int .i64 a.mem,.int .i64 a.cores]:=rfl
set_option linter.defProp false in
def aW8:=@aIJ
set_option linter.defProp false in
def aIQ:=ai @aNi<|ai @aNh<|ai @aNg<|ai @aNf<|ai @aNe<|ai @aNd<| @aNc
def gF (a:dY):List AV:=[.int .i64 a.node,.int .i64 a.app,.int .i64 a.prio]
def gW (a:dY):AV:=.agg (gF a)
theorem z4 {a:dY}:(gW a).cells=gF a:=rfl
theorem aGH {a:dY}:(gF a).length=3:=rfl
theorem aGF {a:dY}:(gF a).all AV.one=true:=rfl
theorem aKM {a:dY}:(gF a).all AV.ok=true:=rfl
theorem aGI {a:dY}:partOf (gF a) 0 3 true=gW a:=rfl
theorem aEZ {a:dY}:(gF a).drop 3=[]:=rfl
theorem aQn {a:dY}:partOf (gF a) 0 1 false= .int .i64 a.node:=rfl
theorem aQm {a:dY}:partOf (gF a) 1 1 false= .int .i64 a.app:=rfl
theorem aQl {a:dY}:partOf (gF a) 2 1 false= .int .i64 a.prio:=rfl
theorem aGG {P:Program} {d:Bool} {t:Nat} {l:List aP} {r:bX} {L:St->Prop} {Lp:AV->St->Prop} {a:dY} {H:List AO}:nxt P d t l r L Lp (gW a) H=cF P d l ⟨(t,gW a) :: r,H⟩ L Lp:=rfl
theorem aKL {a:dY} {ρ:Nat->Option Nat}:AV.roL ρ (gF a)=gF a:=rfl
theorem aKP {a:dY} {ρ:Nat->Option Nat} {n:Nat}:AV.boL ρ n (gF a)=true:=rfl
attribute [simp] aKL aKP
set_option linter.defProp false in
def xC:=ai @z4<|ai @aGH<|ai @aGF<|ai @aKM<|ai @aGI<|ai @aEZ<|ai @aQn<|ai @aQm<|ai @aQl<| @aGG
theorem aGE {a:dY} {v:Int}: .int .i64 v :: List.drop 1 (gF a)=gF { a with node:=v }:=rfl
theorem aKO {a:dY}:partOf (List.drop 1 (gF a)) 0 1 false= .int .i64 a.app:=rfl
theorem aKN {a:dY}:partOf (List.drop 2 (gF a)) 0 1 false= .int .i64 a.prio:=rfl
set_option linter.defProp false in
def aUj:=@aGE
set_option linter.defProp false in
def aUk:=ai @aKO<| @aKN
def fA (a:dR):List AV:=[.int .i64 a.id,.int .i64 a.label,.int .i64 a.frm,.int .i64 a.til,.int .i64 a.mem,.int .i64 a.cores]
def eD (a:dR):AV:=.agg (fA a)
theorem aAd {a:dR}:(eD a).cells=fA a:=rfl
theorem aHc {a:dR}:(fA a).length=6:=rfl
theorem aHa {a:dR}:(fA a).all AV.one=true:=rfl
theorem aLn {a:dR}:(fA a).all AV.ok=true:=rfl
theorem aHd {a:dR}:partOf (fA a) 0 6 true=eD a:=rfl
theorem aQO {a:dR}:partOf (fA a) 0 1 false= .int .i64 a.id:=rfl
theorem aQN {a:dR}:partOf (fA a) 1 1 false= .int .i64 a.label:=rfl
theorem aQM {a:dR}:partOf (fA a) 2 1 false= .int .i64 a.frm:=rfl
theorem aQL {a:dR}:partOf (fA a) 3 1 false= .int .i64 a.til:=rfl
theorem aQK {a:dR}:partOf (fA a) 4 1 false= .int .i64 a.mem:=rfl
theorem aQJ {a:dR}:partOf (fA a) 5 1 false= .int .i64 a.cores:=rfl
theorem aLo {a:dR}:partOf (fA a) 4 2 true= .agg [.int .i64 a.mem,.int .i64 a.cores]:=rfl
theorem aHb {P:Program} {d:Bool} {t:Nat} {l:List aP} {r:bX} {L:St->Prop} {Lp:AV->St->Prop} {a:dR} {H:List AO}:nxt P d t l r L Lp (eD a) H=cF P d l ⟨(t,eD a) :: r,H⟩ L Lp:=rfl
theorem aLm {a:dR} {ρ:Nat->Option Nat}:AV.roL ρ (fA a)=fA a:=rfl
theorem aLt {a:dR} {ρ:Nat->Option Nat} {n:Nat}:AV.boL ρ n (fA a)=true:=rfl
attribute [simp] aLm aLt
set_option linter.defProp false in
def aUX:=ai @aAd<|ai @aHc<|ai @aHa<|ai @aLn<|ai @aHd<|ai @aQO<|ai @aQN<|ai @aQM<|ai @aQL<|ai @aQK<|ai @aQJ<|ai @aLo<| @aHb
theorem aG9 {a:dR} {v:Int}: .int .i64 v :: List.drop 1 (fA a)=fA { a with id:=v }:=rfl
theorem aLs {a:dR}:partOf (List.drop 1 (fA a)) 0 1 false= .int .i64 a.label:=rfl
theorem aLr {a:dR}:partOf (List.drop 2 (fA a)) 0 1 false= .int .i64 a.frm:=rfl
theorem aLq {a:dR}:partOf (List.drop 3 (fA a)) 0 1 false= .int .i64 a.til:=rfl
theorem aLp {a:dR}:partOf (List.drop 4 (fA a)) 0 2 true= .agg [.int .i64 a.mem,.int .i64 a.cores]:=rfl
set_option linter.defProp false in
def aUW:=@aG9
set_option linter.defProp false in
def aUY:=ai @aLs<|ai @aLr<|ai @aLq<| @aLp
def stC (s:Sta):List AV:=[.sl false 1 (s.labels.map .str),.sl false 3 (s.qs.map QUE),.sl false 8 (s.nodes.map bO),.sl false 14 (s.apps.map APP),.sl false 9 (s.conts.map bY),.sl false 3 (s.slots.map gW),.sl false 6 (s.plans.map eD),.int .i64 s.now,.int .i64 s.ep,.int .i64 s.sq]
set_option linter.defProp false in
def bB:=ai @stC.eq_1 (ai (@List.append_nil AV) (ai mm2 (ai @cA.eq_1 (ai @cA.eq_2 (ai @bU.eq_1 @bU.eq_2)))))
set_option linter.defProp false in
def aN:=ai @lV<|ai @aBC<| @aU2
set_option linter.defProp false in
def a9:=ai @aGa<|ai @aZf<| @aZe
set_option linter.defProp false in
def aY:=ai @aIP<|ai @aIQ<| @aW8
set_option linter.defProp false in
def cU:=ai @xC<|ai @aUk<| @aUj
set_option linter.defProp false in
def bG:=ai @aUX<|ai @aUY<| @aUW
set_option linter.defProp false in
def bF:=ai @aZc<|ai @aZd<| @aZb
set_option linter.defProp false in
def bW:=ai @aYv<|ai @aYw<| @aYu
set_option linter.defProp false in
def kH:=ai @aXY<|ai @aY7<| @aY5
theorem Ya {P Q:Prop} (q:Q) (e:P=Q:=by conv=>lhs;simp -implicitDefEqProofs(disch:=first|decide|omega)only[↓aA,aC,aB,simprocAttr]):P:=e.mpr q
theorem Xa {P Q A:Prop} (a:A) (q:Q) (e:A->P=Q:=by intro a;conv=>lhs;simp -implicitDefEqProofs(disch:=first|decide|omega)only[↓aA,aC,aB,simprocAttr,a]):P:=(e a).mpr q
theorem Yb {P Q:Prop} (q:Q) (e:P=Q:=by conv=>lhs;simp -implicitDefEqProofs(disch:=first|decide|omega)only[↓aA,aC,aB,simprocAttr,bB]):P:=e.mpr q
theorem Xb {P Q A:Prop} (a:A) (q:Q) (e:A->P=Q:=by intro a;conv=>lhs;simp -implicitDefEqProofs(disch:=first|decide|omega)only[↓aA,aC,aB,simprocAttr,bB,a]):P:=(e a).mpr q
theorem Yc {P Q:Prop} (q:Q) (e:P=Q:=by conv=>lhs;simp -implicitDefEqProofs(disch:=first|decide|omega)only[↓aA,aC,aB,simprocAttr,bB,aY]):P:=e.mpr q
theorem Xc {P Q A:Prop} (a:A) (q:Q) (e:A->P=Q:=by intro a;conv=>lhs;simp -implicitDefEqProofs(disch:=first|decide|omega)only[↓aA,aC,aB,simprocAttr,bB,aY,a]):P:=(e a).mpr q
theorem Yd {P Q:Prop} (q:Q) (e:P=Q:=by conv=>lhs;simp -implicitDefEqProofs(disch:=first|decide|omega)only[↓aA,aC,aB,simprocAttr,bB,bG]):P:=e.mpr q
theorem Ye {P Q:Prop} (q:Q) (e:P=Q:=by conv=>lhs;simp -implicitDefEqProofs(disch:=first|decide|omega)only[↓aA,aC,aB,simprocAttr,bB,aN,bF,a9,cU]):P:=e.mpr q
theorem Yf {P Q:Prop} (q:Q) (e:P=Q:=by conv=>lhs;simp -implicitDefEqProofs(disch:=first|decide|omega)only[↓aA,aC,aB,simprocAttr,stC]):P:=e.mpr q
theorem Yg {P Q:Prop} (q:Q) (e:P=Q:=by conv=>lhs;simp -implicitDefEqProofs(disch:=first|decide|omega)only[↓aA,aC,aB,simprocAttr,bB,aN,bF,a9]):P:=e.mpr q
theorem Xg {P Q A:Prop} (a:A) (q:Q) (e:A->P=Q:=by intro a;conv=>lhs;simp -implicitDefEqProofs(disch:=first|decide|omega)only[↓aA,aC,aB,simprocAttr,bB,aN,bF,a9,a]):P:=(e a).mpr q
theorem Yh {P Q:Prop} (q:Q) (e:P=Q:=by conv=>lhs;simp -implicitDefEqProofs(disch:=first|decide|omega)only[↓aA,aC,aB,simprocAttr,bB,a9]):P:=e.mpr q
theorem Xh {P Q A:Prop} (a:A) (q:Q) (e:A->P=Q:=by intro a;conv=>lhs;simp -implicitDefEqProofs(disch:=first|decide|omega)only[↓aA,aC,aB,simprocAttr,bB,a9,a]):P:=(e a).mpr q
theorem Yi {P Q:Prop} (q:Q) (e:P=Q:=by conv=>lhs;simp -implicitDefEqProofs(disch:=first|decide|omega)only[↓aA,aC,aB,simprocAttr,bB,aN]):P:=e.mpr q
theorem Xi {P Q A:Prop} (a:A) (q:Q) (e:A->P=Q:=by intro a;conv=>lhs;simp -implicitDefEqProofs(disch:=first|decide|omega)only[↓aA,aC,aB,simprocAttr,bB,aN,a]):P:=(e a).mpr q
theorem Yj {P Q:Prop} (q:Q) (e:P=Q:=by conv=>lhs;simp -implicitDefEqProofs(disch:=first|decide|omega)only[↓aA,aC,aB,simprocAttr,bB,List.take_length]):P:=e.mpr q
theorem Yk {P Q:Prop} (q:Q) (e:P=Q:=by conv=>lhs;simp -implicitDefEqProofs(disch:=first|decide|omega)only[↓aA,aC,aB,simprocAttr,bB,bW]):P:=e.mpr q
theorem Yl {P Q:Prop} (q:Q) (e:P=Q:=by conv=>lhs;simp -implicitDefEqProofs(disch:=first|decide|omega)only[↓aA,aC,aB,simprocAttr,bB,l6]):P:=e.mpr q
theorem Ym {P Q:Prop} (q:Q) (e:P=Q:=by conv=>lhs;simp -implicitDefEqProofs(disch:=first|decide|omega)only[↓aA,aC,aB,simprocAttr,bB,bF]):P:=e.mpr q
theorem Xm {P Q A:Prop} (a:A) (q:Q) (e:A->P=Q:=by intro a;conv=>lhs;simp -implicitDefEqProofs(disch:=first|decide|omega)only[↓aA,aC,aB,simprocAttr,bB,bF,a]):P:=(e a).mpr q
theorem Yn {P Q:Prop} (q:Q) (e:P=Q:=by conv=>lhs;simp -implicitDefEqProofs(disch:=first|decide|omega)only[↓aA,aC,aB,simprocAttr,AO.fz,AV.fz1,bB]):P:=e.mpr q
theorem Xo {P Q A:Prop} (a:A) (q:Q) (e:A->P=Q:=by intro a;conv=>lhs;simp -implicitDefEqProofs(disch:=first|decide|omega)only[↓aA,aC,aB,simprocAttr,bB,cU,a]):P:=(e a).mpr q
theorem Yq {P Q:Prop} (q:Q) (e:P=Q:=by conv=>lhs;simp -implicitDefEqProofs(disch:=first|decide|omega)only[↓aA,aC,aB,simprocAttr,cA,bU,List.append_nil]):P:=e.mpr q
def wX:Nat:=2^40
structure QT (q:Queue):Prop where
 path:q.path.length<=60
 caps:q.caps.length<=3
structure AT (a:App):Prop where
 queue:a.queue.length<=60
 asks:a.asks.length<=8
 gl:a.grants.length<=wX
 kl:a.kills.length<=wX
 tl:a.told.length<=wX
 ll:a.lost.length<=wX
structure CT (ls:List (List UInt8)) (qs:List Queue):Prop where
 l1:1<=ls.length
 l3:ls.length<=3
 lr:∀ x∈ls,x.length<=12
 q1:1<=qs.length
 q3:qs.length<=16
 qr:∀ q∈qs,QT q
structure ST (s:Sta):Prop where
 c:CT s.labels s.qs
 n:s.nodes.length<=12
 a:s.apps.length<=16
 ar:∀ a∈s.apps,AT a
 k:s.conts.length<=201
 l:s.slots.length<=12
 p:s.plans.length<=12
def bN (ls:List (List UInt8)) (qs:List Queue):List AV:=[.sl false 1 (ls.map .str),.sl false 3 (qs.map QUE)]
def Wk4 (r y:AV):Prop:=∀ (E:Env) (n:Nat) (v:Value),E.VR n v r->E.VR n v y
theorem Wk4.refl (r:AV):Wk4 r r:=fun _ _ _ h=>h
theorem Wk4.of {r y:AV} (h:Wk r y):Wk4 r y:=fun _ _ _ hv=>h.vr hv
theorem Wk4.sl {t:Bool} {z:Nat} {l l':List AV} (hl:l.length=l'.length) (hel:∀ a∈l',a.el z=true) (hf:WkL (flat l) (flat l')):Wk4 (.sl t z l) (.sl t z l'):=by
 intro E n v hv
 cases hv with
 | sl0 =>
   have:l'=[]:=List.eq_nil_of_length_eq_zero hl.symm
   subst this
   exact .sl0
 | sl u hm hlen hS he hc hk =>
   refine .sl u (hm.trans hl) (hl ▸ hlen) hS hel (fun k h=>hc k (by rw [hf.len];exact h)) fun k y hy=>?_
   obtain ⟨r,h1,h2⟩:=hf.get k y hy
   exact h2.vr (hk k r h1)
theorem cX {P:Program} {f:FuncId} {args:List AV} {Q:AV->Prop} (h:aW P f args [] fun r _=>∃ y,Wk4 r y/\Q y):aW P f args [] fun y _=>Q y :=
 ⟨h.1,fun E vs hm hl hv=>(h.2 E vs hm hl hv).mono fun e w' ⟨v,y',H',E',h1,h2,h3,h4,h5,y,h6,h7⟩=>⟨v,y,H',E',h1,h2,h6 _ _ _ h3,h4,h5,h7⟩⟩
theorem WkL.refl:∀ l:List AV,WkL l l
 | []=>trivial
 | a :: l=>⟨.inl rfl,WkL.refl l⟩
def W4L:List AV->List AV->Prop
 | [],[]=>True
 | r :: rs,y :: ys=>Wk4 r y/\W4L rs ys
 | _,_=>False
theorem W4L.len:∀ {rs ys:List AV},W4L rs ys->rs.length=ys.length
 | [],[],_=>rfl
 | r :: rs,y :: ys,h=>congrArg (· +1) (W4L.len h.2)
theorem W4L.get:∀ {rs ys:List AV},W4L rs ys->∀ (k:Nat) (y:AV),ys[k]?=some y->∃ r,rs[k]?=some r/\Wk4 r y
 | [],[],_,k,y,h=>by simp at h
 | r :: rs,y :: ys,h,0,z,hz=>by
   simp only [List.getElem?_cons_zero,Option.some.injEq] at hz
   subst hz
   exact ⟨r,rfl,h.1⟩
 | r :: rs,y :: ys,h,k+1,z,hz=>by
   simp only [List.getElem?_cons_succ] at hz ⊢
   exact W4L.get h.2 k z hz
theorem W4L.app:∀ {a b c d:List AV},W4L a b->W4L c d->W4L (a++c) (b++d)
 | [],[],_,_,_,h=>h
 | r :: rs,y :: ys,_,_,h,g=>⟨h.1,W4L.app h.2 g⟩
theorem Wk4.nil {t:Bool} {z:Nat}:Wk4 .aD (.sl t z []):=fun _ _ _ hv=>by
 rw [hv.fS]
 exact .sl0
theorem Wk4.aKn {rs ys:List AV} (h:W4L rs ys) (h1:∀ a∈ys,a.one=true):Wk4 (.agg rs) (.agg ys):=by
 intro E n v hv
 cases hv with
 | agg hl _ hk =>
   refine .agg (hl.trans h.len) h1 fun k y hy=>?_
   obtain ⟨r,g1,g2⟩:=h.get k y hy
   exact g2 _ _ _ (hk k r g1)
theorem Wk4.aQi {rs ys:List AV} (h:W4L rs ys):Wk4 (.tup rs) (.tup ys):=by
 intro E n v hv
 cases hv with
 | tup hl hk =>
   refine .tup (hl.trans h.len) fun k y hy=>?_
   obtain ⟨r,g1,g2⟩:=h.get k y hy
   exact g2 _ _ _ (hk k r g1)
structure Act where
 kind:Int
 a:Int
 b:Int
 c:Int
 d:Int
 deriving Inhabited
def ACT (x:Act):AV:=.agg [.int .i64 x.kind,.int .i64 x.a,.int .i64 x.b,.int .i64 x.c,.int .i64 x.d]
structure CL (ls:List (List UInt8)) (qs:List Queue):Prop where
 l:ls.length<=3
 lr:∀ x∈ls,x.length<=12
 q:qs.length<=16
 qr:∀ q∈qs,QT q
end Go.Proofs.YtakemdamegfcfaaGreat
