/- A part of a proof: what functions of the program compute. No condition. -/
import Derived.Test.YtakemdamegfcfaaGreatT28
import Derived.Test.YtakemdamegfcfaaGreatT12
import Derived.Test.YtakemdamegfcfaaGreatT26
set_option linter.unusedSimpArgs false
set_option linter.unusedVariables false
set_option maxRecDepth 20000
namespace Go.Proofs.YtakemdamegfcfaaGreat
open Go Go.Ab
theorem aIl (a n:Int) (h:1<=n) (h2:n<=1000000):aT Tryz.prog 109 [.int .i64 a,.int .i64 n] (.int .i64 (inF a n)):=by
 unfold aT
 refine aK aRy (by simp) ?_
 unfold aOk
 have hr: -n<a.tmod n/\a.tmod n<n:=⟨Int.lt_tmod_of_pos a (by omega),Int.tmod_lt_of_pos a (by omega)⟩
 unfold inF
 generalize hk:a.tmod n=k at hr
 by_cases hc:k<0
 · rw [if_pos hc]
   refine Xa hk ?_
   omega
 · rw [if_neg hc]
   refine Xa hk ?_
   omega
theorem tB (a n:Int) (h:1<=n) (h2:n<=1000000):∃ r:Int,0<=r/\r<n/\aT Tryz.prog 109 [.int .i64 a,.int .i64 n] (.int .i64 r):=⟨_,(gO a n h).1,(gO a n h).2,aIl a n h h2⟩
theorem aSs (x:Int):(I64 x).cells=[.int .i64 x]:=rfl
theorem rJ (ns:List Int) (i:Nat) (hl:ns.length<=30):∃ r:Int,aT Tryz.prog 111 [.sl true 1 (ns.map I64),.int .i64 i] (.int .i64 r):=by
 refine ⟨if ns.length=0 then (i:Int) else ns.getD (i % ns.length) 0,?_⟩
 unfold aT
 refine aK aWK (by simp) ?_
 unfold aP0
 by_cases h0:ns.length=0
 · rw [if_pos h0]
   simp -implicitDefEqProofs(disch:=first|decide|omega)only[↓aA,aC,aB,simprocAttr,h0]
 · rw [if_neg h0]
   refine Ya ?_
   have e:(i:Int).tmod (ns.length:Int)=((i % ns.length:Nat):Int):=by
    rw [Int.tmod_eq_emod_of_nonneg (by omega)]
    rfl
   have hlt:=Nat.mod_lt i (show 0<ns.length by omega)
   rw [e,Int.toNat_natCast]
   refine ⟨by omega,by omega,by omega,?_⟩
   simp -implicitDefEqProofs(disch:=first|decide|omega)only[↓aA,aC,aB,simprocAttr,aSs]
   rfl
theorem aMW (left:Int) (h0:0<=left) (h1:left<=10000):∃ h2:Int,IntKind.i64.wrap (left.tdiv 2)=h2/\0<=h2/\h2<=left:=by
 refine ⟨left / 2,?_,by omega,by omega⟩
 rw [Int.tdiv_eq_ediv_of_nonneg h0]
 exact wrap_i64 (by omega) (by omega)
structure PX where
 path:List UInt8
 x:AV
 user:Int
instance:Inhabited PX:=⟨⟨[],.top,0⟩⟩
def ROW (q:PX):AV:=.agg [.str q.path,q.x,.int .i64 q.user]
def aRu (p:List UInt8) (q:PX):Bool:=p !=[]&&(dH q.path).1==p
def kW (p:List UInt8) (qs:List PX):List (List UInt8):=(qs.filter (aRu p)).map PX.path
theorem pQ {a:PX}:(ROW a).cells=[.str a.path,a.x,.int .i64 a.user]:=rfl
set_option maxHeartbeats 2000000 in
theorem aGi (tl tq:Bool) (ls:List (List UInt8)) (qs:List PX) (p:List UInt8) (hl:qs.length<=2^40) (hq:∀ q∈qs,q.path.length<=2^40) :
 aT Tryz.prog 110 [.agg [.sl tl 1 (ls.map AV.str),.sl tq 3 (qs.map ROW)],.str p] (.sl false 1 ((kW p qs).map AV.str)):=by
 refine aT.wk3 (aK aOc (by simp) ?_)
 unfold aJV
 refine Ya ?_
 unfold wV
 refine Ya ?_
 refine aF (σ:=Nat) (fun i=>⟨[(1,.str p),(2,.ref 0 0 0),(5,.own 1 1 0 (kW p (qs.take i)).length),(6,.int .i64 (i:Int))],[.box [.sl tl 1 (ls.map AV.str),.sl tq 3 (qs.map ROW)],.arr 1 ((kW p (qs.take i)).map AV.str)]⟩)
  (fun i=>i<=qs.length) (fun i=>qs.length-i) 0 ?_ (by omega) ?_
 · simp only [List.take_zero,kW,List.filter_nil,List.map_nil,List.length_nil]
   (refine Sub.ofL [some 0,none] rfl (by simp) (by decide) (by simp [cQ,AO.ro,AV.ro,AV.roL,names,AO.empty,SB,U8,SI,I64,STR]<;>(try and_intros)<;>rfl) (by simp [AO.bo,AV.bo,AV.boL,names]<;>(try and_intros)<;>rfl) ?_<;>(try simp only [List.map_cons,List.map_nil,cV,AV.ro,AV.roL,AV.bo,AV.boL,names,bK,bE,Nat.reduceBEq,List.getD_cons_zero,List.getD_cons_succ,List.getD_nil,and_true,true_and,Nat.reduceLT,List.length_cons,List.length_nil,Nat.reduceAdd,decide_true,Option.isSome_some,Bool.true_or,Bool.and_self,Option.isSome_none,Bool.false_or,beq_self_eq_true,bL,bM])<;>(try and_intros)<;>(first|done|rfl|exact .inl rfl|exact .inr ⟨rfl,_,_,rfl⟩|(simp;done)|(simp;omega)|(refine .inl ?_;simp;done)|(refine .inl ?_;simp;omega)))
 intro i hii
 unfold wU
 have hlen:(kW p (qs.take i)).length<=i:=by
  unfold kW
  rw [List.length_map]
  exact Nat.le_trans (List.length_filter_le _ _) (by simp;omega)
 by_cases hil:i<qs.length
 · have hg:qs.getD i default=qs[i]:=by simp [hil]
   have hx:=hq _ (List.getElem_mem hil)
   have e1:kW p (qs.take (i+1))=kW p (qs.take i)++(if aRu p qs[i] then [qs[i].path] else []):=by
    unfold kW
    rw [List.take_succ_eq_append_getElem hil,List.filter_append,List.map_append]
    congr 1
    simp only [List.filter_cons,List.filter_nil]
    split<;>rfl
   generalize kW p (qs.take i)=m at e1 hlen
   have hk:aRu p qs[i]=(p !=[]&&(dH qs[i].path).1==p):=rfl
   have ha:=kL qs[i].path (by omega)
   generalize (dH qs[i].path).1=up at hk ha
   cases hp:p==[] with
   | true =>
     have hp2:(p !=[])=false:=by simp [bne,hp]
     rw [hp2,Bool.false_and] at hk
     rw [hk] at e1
     simp only [Bool.false_eq_true,if_false,List.append_nil] at e1
     simp -implicitDefEqProofs(disch:=first|decide|omega)only[↓aA,aC,aB,simprocAttr,hp2,hp]
     refine ⟨i+1,?_,by omega,by omega⟩
     rw [e1]
     (refine Sub.ofL [some 0,some 1] rfl (by simp) (by decide) (by simp [cQ,AO.ro,AV.ro,AV.roL,names,AO.empty,SB,U8,SI,I64,STR]<;>(try and_intros)<;>rfl) (by simp [AO.bo,AV.bo,AV.boL,names]<;>(try and_intros)<;>rfl) ?_<;>(try simp only [List.map_cons,List.map_nil,cV,AV.ro,AV.roL,AV.bo,AV.boL,names,bK,bE,Nat.reduceBEq,List.getD_cons_zero,List.getD_cons_succ,List.getD_nil,and_true,true_and,Nat.reduceLT,List.length_cons,List.length_nil,Nat.reduceAdd,decide_true,Option.isSome_some,Bool.true_or,Bool.and_self,Option.isSome_none,Bool.false_or,beq_self_eq_true,bL,bM])<;>(try and_intros)<;>(first|done|rfl|exact .inl rfl|exact .inr ⟨rfl,_,_,rfl⟩|(simp;done)|(simp;omega)|(refine .inl ?_;simp;done)|(refine .inl ?_;simp;omega)))
   | false =>
     have hp2:(p !=[])=true:=by simp [bne,hp]
     rw [hp2,Bool.true_and] at hk
     cases hb:(up==p) with
     | false =>
       rw [hb] at hk
       rw [hk] at e1
       simp only [Bool.false_eq_true,if_false,List.append_nil] at e1
       simp -implicitDefEqProofs(disch:=first|decide|omega)only[↓aA,aC,aB,simprocAttr,hp2,hp,hg,pQ]
       refine ⟨by omega,by omega,?_⟩
       refine aE (aI.of (aM:=false) (ha) (.refl rfl) rfl (by simp)) ?_
       simp -implicitDefEqProofs(disch:=first|decide|omega)only[↓aA,aC,aB,simprocAttr,hb]
       refine ⟨i+1,?_,by omega,by omega⟩
       rw [e1]
       (refine Sub.ofL [some 0,some 1] rfl (by simp) (by decide) (by simp [cQ,AO.ro,AV.ro,AV.roL,names,AO.empty,SB,U8,SI,I64,STR]<;>(try and_intros)<;>rfl) (by simp [AO.bo,AV.bo,AV.boL,names]<;>(try and_intros)<;>rfl) ?_<;>(try simp only [List.map_cons,List.map_nil,cV,AV.ro,AV.roL,AV.bo,AV.boL,names,bK,bE,Nat.reduceBEq,List.getD_cons_zero,List.getD_cons_succ,List.getD_nil,and_true,true_and,Nat.reduceLT,List.length_cons,List.length_nil,Nat.reduceAdd,decide_true,Option.isSome_some,Bool.true_or,Bool.and_self,Option.isSome_none,Bool.false_or,beq_self_eq_true,bL,bM])<;>(try and_intros)<;>(first|done|rfl|exact .inl rfl|exact .inr ⟨rfl,_,_,rfl⟩|(simp;done)|(simp;omega)|(refine .inl ?_;simp;done)|(refine .inl ?_;simp;omega)))
     | true =>
       rw [hb] at hk
       rw [hk] at e1
       simp only [if_true] at e1
       simp -implicitDefEqProofs(disch:=first|decide|omega)only[↓aA,aC,aB,simprocAttr,hp2,hp,hg,pQ]
       refine ⟨by omega,by omega,?_⟩
       refine aE (aI.of (aM:=false) (ha) (.refl rfl) rfl (by simp)) ?_
       simp -implicitDefEqProofs(disch:=first|decide|omega)only[↓aA,aC,aB,simprocAttr,hb,hg,pQ]
       refine ⟨by omega,by omega,by omega,i+1,?_,by omega,by omega⟩
       rw [e1]
       simp only [List.map_append,List.map_cons,List.map_nil,List.length_append,List.length_cons,List.length_nil]
       (refine Sub.ofL [some 0,some 3] rfl (by simp) (by decide) (by simp [cQ,AO.ro,AV.ro,AV.roL,names,AO.empty,SB,U8,SI,I64,STR]<;>(try and_intros)<;>rfl) (by simp [AO.bo,AV.bo,AV.boL,names]<;>(try and_intros)<;>rfl) ?_<;>(try simp only [List.map_cons,List.map_nil,cV,AV.ro,AV.roL,AV.bo,AV.boL,names,bK,bE,Nat.reduceBEq,List.getD_cons_zero,List.getD_cons_succ,List.getD_nil,and_true,true_and,Nat.reduceLT,List.length_cons,List.length_nil,Nat.reduceAdd,decide_true,Option.isSome_some,Bool.true_or,Bool.and_self,Option.isSome_none,Bool.false_or,beq_self_eq_true,bL,bM])<;>(try and_intros)<;>(first|done|rfl|exact .inl rfl|exact .inr ⟨rfl,_,_,rfl⟩|(simp;done)|(simp;omega)|(refine .inl ?_;simp;done)|(refine .inl ?_;simp;omega)))
 · have:i=qs.length:=by omega
   subst this
   rw [List.take_length]
   refine Ya ?_
   exact .inl (.inl (.inl rfl))
def gQ (ps:Nat->List UInt8) (us:Nat->Int) (nl:Nat):List Nat->List AV
 | []=>[]
 | q :: l=>.str (ps q) :: .own (3+q) 2 0 nl :: .int .i64 (us q) :: gQ ps us nl l
def gA (cs:Nat->List Cap):List Nat->List AO
 | []=>[]
 | q :: l=>.arr 2 ((cs q).map CAP) :: gA cs l
structure GP where
 ns:List Int
 labs:List (List UInt8)
 pl:List (List UInt8)
 r:Nat
 ps:Nat->List UInt8
 us:Nat->Int
 l:List Nat
def GP.H (g:GP) (cs:Nat->List Cap) (T:List AO):List AO:=.box [.aD,.aD] :: .box [.sl false 1 (g.labs.map .str),.own 2 3 0 g.l.length] :: .box (gQ g.ps g.us g.labs.length g.l++List.replicate g.r .any) :: (gA cs g.l++T)
inductive GL:List Nat->Prop
 | a:GL [0]
 | b:GL [0,1]
 | c:GL [0,1,2]
 | d:GL [0,1,2,3,4]
 | e:GL [0,1,2,3,4,5,6]
structure aBm (g:GP):Prop where
 ns:g.ns.length<=30
 labs:g.labs.length=1∨g.labs.length=2
 pl:g.pl.length<=7
 l:GL g.l
 ps:∀ q,(g.ps q).length<=60
theorem GL.len {l:List Nat} (h:GL l):1<=l.length/\l.length<=7:=by cases h<;>decide
def aQg (cs:Nat->List Cap) (m k:Nat) (v:Cap):Nat->List Cap:=fun w=>if w=m then (cs m).set k v else cs w
theorem aGu {cs:Nat->List Cap} {nl m k:Nat} {v:Cap} (h:∀ w,(cs w).length=nl):∀ w,(aQg cs m k v w).length=nl:=fun w=>by
 unfold aQg
 split
 · rw [List.length_set];exact h m
 · exact h w
set_option maxHeartbeats 16000000 in
theorem aU6 (g:GP) (h:aBm g) (ks:List (List UInt8)) (i left x y:Int) (j k:Nat) (hj:j<ks.length) (hk:k<g.labs.length) (cs:Nat->List Cap) (T:List AO) (hc0:∀ q,(cs q).length=g.labs.length) (Q:AE->St->Prop)
 (hQ:∀ cs':Nat->List Cap,(∀ q,(cs' q).length=g.labs.length)->Q (.exit 10) ⟨[(1,.sl true 1 (g.ns.map I64)),(4,.ref 0 0 0),(6,.ref 1 0 0),(7,.sl false 1 (g.pl.map .str)),(11,.int .i64 i),(12,.sl false 1 (ks.map .str)),(13,.int .i64 (k:Int)),(14,.int .i64 left),(15,.int .i64 (j:Int)),(16,.int .i64 x),(17,.int .i64 y),(18,.int .i64 (g.l.length:Int)),(170,.bool false)],g.H cs' T⟩) (s0:St) (hs0:Sub 0 (dM (some [1,4,6,7,11,12,13,14,15,16,17,18]) s0) ⟨[(1,.sl true 1 (g.ns.map I64)),(4,.ref 0 0 0),(6,.ref 1 0 0),(7,.sl false 1 (g.pl.map .str)),(11,.int .i64 i),(12,.sl false 1 (ks.map .str)),(13,.int .i64 (k:Int)),(14,.int .i64 left),(15,.int .i64 (j:Int)),(16,.int .i64 x),(17,.int .i64 y),(18,.int .i64 (((0:Nat):Int)))],g.H cs T⟩):aw Tryz.prog (.loop 0 (some [1,4,6,7,11,12,13,14,15,16,17,18]) aAX) Q s0:=by
 refine aF (σ:=Nat×(Nat->List Cap)) (fun q=>⟨[(1,.sl true 1 (g.ns.map I64)),(4,.ref 0 0 0),(6,.ref 1 0 0),(7,.sl false 1 (g.pl.map .str)),(11,.int .i64 i),(12,.sl false 1 (ks.map .str)),(13,.int .i64 (k:Int)),(14,.int .i64 left),(15,.int .i64 (j:Int)),(16,.int .i64 x),(17,.int .i64 y),(18,.int .i64 (q.1:Int))],g.H q.2 T⟩) (fun q=>q.1<=g.l.length/\∀ w,(q.2 w).length=g.labs.length) (fun q=>g.l.length-q.1) (0,cs) hs0 ⟨by simp,hc0⟩ ?_
 rintro ⟨m,cz⟩ ⟨hm,hcs⟩
 simp only at hm hcs ⊢
 have hg:ks.getD j default=ks[j]:=by simp [hj]
 unfold aAX
 have hfill:bU [.int .i64 0,.int .i64 0] [(0,1,.int .i64 x),(1,1,.int .i64 y)]=mP ⟨x,y⟩:=rfl
 have hl:=h.l
 obtain ⟨ns,labs,pl,r,ps,us,l⟩:=g
 simp only at hm hcs hQ hl hk ⊢
 obtain ⟨M,hM⟩:∃ M,M=m:=⟨_,rfl⟩
 cases hl
 all_goals simp only [List.length_cons,List.length_nil] at hm ⊢
 all_goals
  rcases (by omega:m=0∨m=1∨m=2∨m=3∨m=4∨m=5∨m=6∨m=7) with rfl|rfl|rfl|rfl|rfl|rfl|rfl|rfl
 all_goals first
  | (exfalso;omega)
  | (simp only [GP.H,gQ,gA,List.cons_append,List.nil_append,List.length_cons,List.length_nil] at hQ ⊢
     simp -implicitDefEqProofs(disch:=first|decide|omega)only[↓aA,aC,aB,simprocAttr,hg]
     first
      | exact hQ cz hcs
      | (repeat (refine And.intro (by omega) ?_)
         refine a8 (fun hb=>?_) (fun hb=>?_)
         · have h0:=hcs M
           simp -implicitDefEqProofs(disch:=first|decide|omega)only[↓aA,aC,aB,simprocAttr,aXY,hfill,cA,List.append_nil,hcs]
           repeat (refine And.intro (by subst hM;omega) ?_)
           exact ⟨(M+1,aQg cz M k ⟨x,y⟩),by subst hM;exact .inl rfl,⟨by simp only;omega,aGu hcs⟩,by simp only;omega⟩
         · simp -implicitDefEqProofs(disch:=first|decide|omega)only[↓aA,aC,aB,simprocAttr]
           exact ⟨(M+1,cz),by subst hM;exact .inl rfl,⟨by simp only;omega,hcs⟩,by simp only;omega⟩))
theorem aYN {a b c:Int} {i:Nat} {K:AV->Prop}:rG 1 false i 0 (some (.arr 1 [.int .i64 a,.int .i64 b,.int .i64 c])) K=(i<3/\K (.int .i64 ([a,b,c].getD i 0))):=by
 show (_/\_/\_/\_)=_
 match i with
 | 0=>simp;rfl
 | 1=>simp;rfl
 | 2=>simp;rfl
 | n+3=>simp;intro h;omega
theorem aYM {a b c d:Int} {i:Nat} {K:AV->Prop}:rG 1 false i 0 (some (.arr 1 [.int .i64 a,.int .i64 b,.int .i64 c,.int .i64 d])) K=(i<4/\K (.int .i64 ([a,b,c,d].getD i 0))):=by
 show (_/\_/\_/\_)=_
 match i with
 | 0=>simp;rfl
 | 1=>simp;rfl
 | 2=>simp;rfl
 | 3=>simp;rfl
 | n+4=>simp;intro h;omega
theorem aIs (g:GP) (hl:GL g.l) (ks:List (List UInt8)) (i k left j:Int) (cs:Nat->List Cap) (T:List AO):Sub 0 ⟨[(1,.sl true 1 (g.ns.map I64)),(4,.ref 0 0 0),(6,.ref 1 0 0),(7,.sl false 1 (g.pl.map .str)),(11,.int .i64 i),(12,.sl false 1 (ks.map .str)),(13,.int .i64 k),(14,.int .i64 left),(15,.int .i64 j)],g.H cs T⟩ ⟨[(1,.sl true 1 (g.ns.map I64)),(4,.ref 0 0 0),(6,.ref 1 0 0),(7,.sl false 1 (g.pl.map .str)),(11,.int .i64 i),(12,.sl false 1 (ks.map .str)),(13,.int .i64 k),(14,.int .i64 left),(15,.int .i64 j)],g.H cs []⟩:=by
 obtain ⟨ns,labs,pl,r,ps,us,l⟩:=g
 simp only at hl
 cases hl<;>simp only [GP.H,gQ,gA,List.cons_append,List.nil_append,List.length_cons,List.length_nil]
 · (refine Sub.ofL [some 0,some 1,some 2,some 3] rfl (by simp) (by decide) (by simp [cQ,AO.ro,AV.ro,AV.roL,names,AO.empty,SB,U8,SI,I64,STR]<;>(try and_intros)<;>rfl) (by simp [AO.bo,AV.bo,AV.boL,names]<;>(try and_intros)<;>rfl) ?_<;>(try simp only [List.map_cons,List.map_nil,cV,AV.ro,AV.roL,AV.bo,AV.boL,names,bK,bE,Nat.reduceBEq,List.getD_cons_zero,List.getD_cons_succ,List.getD_nil,and_true,true_and,Nat.reduceLT,List.length_cons,List.length_nil,Nat.reduceAdd,decide_true,Option.isSome_some,Bool.true_or,Bool.and_self,Option.isSome_none,Bool.false_or,beq_self_eq_true,bL,bM])<;>(try and_intros)<;>(first|done|rfl|exact .inl rfl|exact .inr ⟨rfl,_,_,rfl⟩|(simp;done)|(simp;omega)|(refine .inl ?_;simp;done)|(refine .inl ?_;simp;omega)))
 · (refine Sub.ofL [some 0,some 1,some 2,some 3,some 4] rfl (by simp) (by decide) (by simp [cQ,AO.ro,AV.ro,AV.roL,names,AO.empty,SB,U8,SI,I64,STR]<;>(try and_intros)<;>rfl) (by simp [AO.bo,AV.bo,AV.boL,names]<;>(try and_intros)<;>rfl) ?_<;>(try simp only [List.map_cons,List.map_nil,cV,AV.ro,AV.roL,AV.bo,AV.boL,names,bK,bE,Nat.reduceBEq,List.getD_cons_zero,List.getD_cons_succ,List.getD_nil,and_true,true_and,Nat.reduceLT,List.length_cons,List.length_nil,Nat.reduceAdd,decide_true,Option.isSome_some,Bool.true_or,Bool.and_self,Option.isSome_none,Bool.false_or,beq_self_eq_true,bL,bM])<;>(try and_intros)<;>(first|done|rfl|exact .inl rfl|exact .inr ⟨rfl,_,_,rfl⟩|(simp;done)|(simp;omega)|(refine .inl ?_;simp;done)|(refine .inl ?_;simp;omega)))
 · (refine Sub.ofL [some 0,some 1,some 2,some 3,some 4,some 5] rfl (by simp) (by decide) (by simp [cQ,AO.ro,AV.ro,AV.roL,names,AO.empty,SB,U8,SI,I64,STR]<;>(try and_intros)<;>rfl) (by simp [AO.bo,AV.bo,AV.boL,names]<;>(try and_intros)<;>rfl) ?_<;>(try simp only [List.map_cons,List.map_nil,cV,AV.ro,AV.roL,AV.bo,AV.boL,names,bK,bE,Nat.reduceBEq,List.getD_cons_zero,List.getD_cons_succ,List.getD_nil,and_true,true_and,Nat.reduceLT,List.length_cons,List.length_nil,Nat.reduceAdd,decide_true,Option.isSome_some,Bool.true_or,Bool.and_self,Option.isSome_none,Bool.false_or,beq_self_eq_true,bL,bM])<;>(try and_intros)<;>(first|done|rfl|exact .inl rfl|exact .inr ⟨rfl,_,_,rfl⟩|(simp;done)|(simp;omega)|(refine .inl ?_;simp;done)|(refine .inl ?_;simp;omega)))
 · (refine Sub.ofL [some 0,some 1,some 2,some 3,some 4,some 5,some 6,some 7] rfl (by simp) (by decide) (by simp [cQ,AO.ro,AV.ro,AV.roL,names,AO.empty,SB,U8,SI,I64,STR]<;>(try and_intros)<;>rfl) (by simp [AO.bo,AV.bo,AV.boL,names]<;>(try and_intros)<;>rfl) ?_<;>(try simp only [List.map_cons,List.map_nil,cV,AV.ro,AV.roL,AV.bo,AV.boL,names,bK,bE,Nat.reduceBEq,List.getD_cons_zero,List.getD_cons_succ,List.getD_nil,and_true,true_and,Nat.reduceLT,List.length_cons,List.length_nil,Nat.reduceAdd,decide_true,Option.isSome_some,Bool.true_or,Bool.and_self,Option.isSome_none,Bool.false_or,beq_self_eq_true,bL,bM])<;>(try and_intros)<;>(first|done|rfl|exact .inl rfl|exact .inr ⟨rfl,_,_,rfl⟩|(simp;done)|(simp;omega)|(refine .inl ?_;simp;done)|(refine .inl ?_;simp;omega)))
 · (refine Sub.ofL [some 0,some 1,some 2,some 3,some 4,some 5,some 6,some 7,some 8,some 9] rfl (by simp) (by decide) (by simp [cQ,AO.ro,AV.ro,AV.roL,names,AO.empty,SB,U8,SI,I64,STR]<;>(try and_intros)<;>rfl) (by simp [AO.bo,AV.bo,AV.boL,names]<;>(try and_intros)<;>rfl) ?_<;>(try simp only [List.map_cons,List.map_nil,cV,AV.ro,AV.roL,AV.bo,AV.boL,names,bK,bE,Nat.reduceBEq,List.getD_cons_zero,List.getD_cons_succ,List.getD_nil,and_true,true_and,Nat.reduceLT,List.length_cons,List.length_nil,Nat.reduceAdd,decide_true,Option.isSome_some,Bool.true_or,Bool.and_self,Option.isSome_none,Bool.false_or,beq_self_eq_true,bL,bM])<;>(try and_intros)<;>(first|done|rfl|exact .inl rfl|exact .inr ⟨rfl,_,_,rfl⟩|(simp;done)|(simp;omega)|(refine .inl ?_;simp;done)|(refine .inl ?_;simp;omega)))
set_option maxHeartbeats 16000000 in
theorem mid (g:GP) (h:aBm g) (ks:List (List UInt8)) (hks:ks.length<=7) (i j k:Nat) (left x:Int) (hi:i<=7) (hj:j<ks.length) (hk:k<g.labs.length) (hx0:0<=x) (hx1:x<=left) (hl1:left<=10000) (cs:Nat->List Cap) (T:List AO) (hT:T=[]∨∃ o,T=[o]) (hc0:∀ q,(cs q).length=g.labs.length) (Q:AE->St->Prop)
 (hQ:∀ (cs':Nat->List Cap) (T':List AO),(∀ q,(cs' q).length=g.labs.length)->Q .normal ⟨[(1,.sl true 1 (g.ns.map I64)),(4,.ref 0 0 0),(6,.ref 1 0 0),(7,.sl false 1 (g.pl.map .str)),(11,.int .i64 (i:Int)),(12,.sl false 1 (ks.map .str)),(13,.int .i64 (k:Int)),(14,.int .i64 (left-x)),(15,.int .i64 (j:Int))],g.H cs' T'⟩) :
 aw Tryz.prog tN Q ⟨[(1,.sl true 1 (g.ns.map I64)),(4,.ref 0 0 0),(6,.ref 1 0 0),(7,.sl false 1 (g.pl.map .str)),(11,.int .i64 (i:Int)),(12,.sl false 1 (ks.map .str)),(13,.int .i64 (k:Int)),(14,.int .i64 left),(15,.int .i64 (j:Int)),(16,.int .i64 x)],g.H cs T⟩:=by
 unfold tN
 have hl2:=h.labs
 obtain ⟨v5,c5⟩:=rJ g.ns (j+k) h.ns
 rw [show (((j+k:Nat)):Int)=(j:Int)+k by omega] at c5
 obtain ⟨x8,w8a,w8b,c8⟩:=tB v5 (10000-x+1) (by omega) (by omega)
 obtain ⟨v6,c6⟩:=rJ g.ns (i+2*j) h.ns
 rw [show (((i+2*j:Nat)):Int)=(i:Int)+2*j by omega] at c6
 obtain ⟨x7,w7a,w7b,c7⟩:=tB v6 3 (by omega) (by omega)
 have hl:=h.l
 obtain ⟨ns,labs,pl,r,ps,us,l⟩:=g
 simp only at hl hc0 hQ hk c5 c6 hl2
 cases hl
 all_goals rcases hT with rfl|⟨o,rfl⟩
 all_goals
  simp only [GP.H,gQ,gA,List.cons_append,List.nil_append,List.length_cons,List.length_nil] at hQ ⊢
  refine Ya ?_
  refine aE (aI.of (aM:=false) (c5) (.refl rfl) rfl (by simp)) ?_
  refine Ya ?_
  refine aE (aI.of (aM:=false) (c8) (.refl rfl) rfl (by simp)) ?_
  refine Ya ?_
  refine aE (aI.of (aM:=false) (c6) (.refl rfl) rfl (by simp)) ?_
  refine Ya ?_
  refine aE (aI.of (aM:=false) (c7) (.refl rfl) rfl (by simp)) ?_
  simp -implicitDefEqProofs(disch:=first|decide|omega)only[↓aA,aC,aB,simprocAttr,aYN]
  repeat (refine And.intro (by omega) ?_)
  unfold aJs
  refine Ya ?_
  refine aU6 ⟨ns,labs,pl,r,ps,us,_⟩ h ks i (left-x) x _ j k hj hk cs (T:=_) hc0 _ (fun cs' hcs'=>?_) _ (.inl rfl)
  simp only [GP.H,gQ,gA,List.cons_append,List.nil_append,List.length_cons,List.length_nil]
  refine Ya ?_
  exact hQ cs' _ hcs'
theorem aYs {a b c d n:Int} (i:Nat) (ha:0<=a/\a<=n) (hb:0<=b/\b<=n) (hc:0<=c/\c<=n) (hd:0<=d/\d<=n):0<=[a,b,c,d].getD i 0/\[a,b,c,d].getD i 0<=n:=by
 match i with
 | 0=>exact ha
 | 1=>exact hb
 | 2=>exact hc
 | 3=>exact hd
 | k+4=>simp;omega
set_option maxHeartbeats 16000000 in
theorem aVa (g:GP) (h:aBm g) (ks:List (List UInt8)) (hks:ks.length<=7) (i k:Nat) (hi:i<=7) (hk:k<g.labs.length) (cs:Nat->List Cap) (hc0:∀ q,(cs q).length=g.labs.length) (Q:AE->St->Prop)
 (hQ:∀ (lf:Int) (cs':Nat->List Cap),(∀ q,(cs' q).length=g.labs.length)->Q (.exit 8) ⟨[(1,.sl true 1 (g.ns.map I64)),(4,.ref 0 0 0),(6,.ref 1 0 0),(7,.sl false 1 (g.pl.map .str)),(11,.int .i64 (i:Int)),(12,.sl false 1 (ks.map .str)),(13,.int .i64 (k:Int)),(14,.int .i64 lf),(15,.int .i64 (ks.length:Int)),(108,.bool false)],g.H cs' []⟩) (s0:St) (hs0:Sub 0 (dM (some [1,4,6,7,11,12,13,14,15]) s0) ⟨[(1,.sl true 1 (g.ns.map I64)),(4,.ref 0 0 0),(6,.ref 1 0 0),(7,.sl false 1 (g.pl.map .str)),(11,.int .i64 (i:Int)),(12,.sl false 1 (ks.map .str)),(13,.int .i64 (k:Int)),(14,.int .i64 10000),(15,.int .i64 (((0:Nat):Int)))],g.H cs []⟩) :
 aw Tryz.prog (.loop 0 (some [1,4,6,7,11,12,13,14,15]) aAW) Q s0:=by
 refine aF (σ:=Nat×Int×(Nat->List Cap)) (fun q=>⟨[(1,.sl true 1 (g.ns.map I64)),(4,.ref 0 0 0),(6,.ref 1 0 0),(7,.sl false 1 (g.pl.map .str)),(11,.int .i64 (i:Int)),(12,.sl false 1 (ks.map .str)),(13,.int .i64 (k:Int)),(14,.int .i64 q.2.1),(15,.int .i64 (q.1:Int))],g.H q.2.2 []⟩) (fun q=>q.1<=ks.length/\0<=q.2.1/\q.2.1<=10000/\∀ w,(q.2.2 w).length=g.labs.length) (fun q=>ks.length-q.1) (0,10000,cs) hs0 ⟨by simp,by simp,by simp,hc0⟩ ?_
 rintro ⟨j,left,cz⟩ ⟨hj,hl0,hl1,hcs⟩
 clear hc0 hs0
 simp only at hj hl0 hl1 hcs ⊢
 unfold aAW
 have hl2:=h.labs
 have hl:=h.l
 by_cases hjk:j<ks.length
 · obtain ⟨v1,c1⟩:=rJ g.ns (i+j+k) h.ns
   rw [show (((i+j+k:Nat)):Int)=(i:Int)+j+k by omega] at c1
   obtain ⟨x1,w1a,w1b,c2⟩:=tB v1 (left+1) (by omega) (by omega)
   have hij:i*j<=7*7:=Nat.mul_le_mul hi (by omega)
   obtain ⟨v3,c3⟩:=rJ g.ns (i*j+k) h.ns
   rw [show (((i*j+k:Nat)):Int)=(i:Int)*j+k by rw [Int.natCast_add,Int.natCast_mul]] at c3
   obtain ⟨x4,w4a,w4b,c4⟩:=tB v3 4 (by omega) (by omega)
   have hij2:0<=(i:Int)*j/\(i:Int)*j<=49:=by
    have:((i*j:Nat):Int)=(i:Int)*j:=Int.natCast_mul i j
    omega
   obtain ⟨h2,hw2,h20,h21⟩:=aMW left hl0 hl1
   have hx:=aYs (n:=left) (a:=0) (b:=h2) (c:=left) (d:=x1) x4.toNat (by omega) (by omega) (by omega) (by omega)
   by_cases hlast:(j:Int)<(ks.length:Int)-1
   · have mm:=mid g h ks hks i j k left ([0,h2,left,x1].getD x4.toNat 0) hi hjk hk hx.1 hx.2 hl1 cz
     have gd:=aIs g hl ks i k
     obtain ⟨ns,labs,pl,r,ps,us,l⟩:=g
     simp only at hl hcs hk c1 c3 hl2 mm gd
     cases hl
     all_goals
      simp only [GP.H,gQ,gA,List.cons_append,List.nil_append,List.length_cons,List.length_nil] at mm gd ⊢
      refine Xa hw2 ?_
      refine aE (aI.of (aM:=false) (c1) (.refl rfl) rfl (by simp)) ?_
      refine Xa hw2 ?_
      refine aE (aI.of (aM:=false) (c2) (.refl rfl) rfl (by simp)) ?_
      refine Xa hw2 ?_
      refine aE (aI.of (aM:=false) (c3) (.refl rfl) rfl (by simp)) ?_
      refine Ya ?_
      refine aE (aI.of (aM:=false) (c4) (.refl rfl) rfl (by simp)) ?_
      simp -implicitDefEqProofs(disch:=first|decide|omega)only[↓aA,aC,aB,simprocAttr,aYM]
      repeat (refine And.intro (by omega) ?_)
      refine mm _ (.inr ⟨_,rfl⟩) hcs _ fun cs' T' hcs'=>?_
      refine Ya ?_
      exact ⟨(j+1,left-[0,h2,left,x1].getD x4.toNat 0,cs'),gd _ _ _ _,⟨by simp only;omega,by simp only;omega,by simp only;omega,hcs'⟩,by simp only;omega⟩
   · refine Ya ?_
     refine mid g h ks hks i j k left left hi hjk hk hl0 (Int.le_refl _) hl1 cz [] (.inl rfl) hcs _ fun cs' T' hcs'=>?_
     refine Ya ?_
     exact ⟨(j+1,0,cs'),aIs g hl ks i k _ _ _ _,⟨by simp only;omega,by simp only;omega,by simp only;omega,hcs'⟩,by simp only;omega⟩
 · have:j=ks.length:=by omega
   subst this
   refine Ya ?_
   exact hQ left cz hcs
set_option maxHeartbeats 16000000 in
theorem aU9 (g:GP) (h:aBm g) (ks:List (List UInt8)) (hks:ks.length<=7) (i:Nat) (hi:i<=7) (cs:Nat->List Cap) (hc0:∀ q,(cs q).length=g.labs.length) (Q:AE->St->Prop)
 (hQ:∀ cs':Nat->List Cap,(∀ q,(cs' q).length=g.labs.length)->Q (.exit 6) ⟨[(1,.sl true 1 (g.ns.map I64)),(4,.ref 0 0 0),(6,.ref 1 0 0),(7,.sl false 1 (g.pl.map .str)),(11,.int .i64 (i:Int)),(12,.sl false 1 (ks.map .str)),(13,.int .i64 (g.labs.length:Int)),(102,.bool false)],g.H cs' []⟩) (s0:St) (hs0:Sub 0 (dM (some [1,4,6,7,11,12,13]) s0) ⟨[(1,.sl true 1 (g.ns.map I64)),(4,.ref 0 0 0),(6,.ref 1 0 0),(7,.sl false 1 (g.pl.map .str)),(11,.int .i64 (i:Int)),(12,.sl false 1 (ks.map .str)),(13,.int .i64 (((0:Nat):Int)))],g.H cs []⟩) :
 aw Tryz.prog (.loop 0 (some [1,4,6,7,11,12,13]) aAV) Q s0:=by
 refine aF (σ:=Nat×(Nat->List Cap)) (fun q=>⟨[(1,.sl true 1 (g.ns.map I64)),(4,.ref 0 0 0),(6,.ref 1 0 0),(7,.sl false 1 (g.pl.map .str)),(11,.int .i64 (i:Int)),(12,.sl false 1 (ks.map .str)),(13,.int .i64 (q.1:Int))],g.H q.2 []⟩) (fun q=>q.1<=g.labs.length/\∀ w,(q.2 w).length=g.labs.length) (fun q=>g.labs.length-q.1) (0,cs) hs0 ⟨by simp,hc0⟩ ?_
 rintro ⟨k,cz⟩ ⟨hk,hcs⟩
 clear hc0 hs0
 simp only at hk hcs ⊢
 unfold aAV
 have hl2:=h.labs
 by_cases hkn:k<g.labs.length
 · simp only [GP.H]
   refine Ya ?_
   unfold aJr
   refine Ya ?_
   refine aVa g h ks hks i k hi hkn cz hcs _ (fun lf cs' hcs'=>?_) _ (.inl rfl)
   simp only [GP.H]
   refine Ya ?_
   exact ⟨(k+1,cs'),.inl rfl,⟨by simp only;omega,hcs'⟩,by simp only;omega⟩
 · have:k=g.labs.length:=by omega
   subst this
   have e:=hQ cz hcs
   simp only [GP.H] at e ⊢
   refine Ya ?_
   exact e
theorem aIt (ps:Nat->List UInt8) (us:Nat->Int) (nl:Nat) (R:List AV):∀ (l:List Nat) (k:Nat) (y:AV),(flat ((l.map fun q=>(⟨ps q,.any,us q⟩:PX)).map ROW))[k]?=some y->∃ a:AV,(gQ ps us nl l++R)[k]?=some a/\((a=y/\y.mA=true)∨y= .any)
 | [],k,y,h=>by simp [flat] at h
 | q :: l,k,y,h=>by
   have e:flat (((q :: l).map fun q=>(⟨ps q,.any,us q⟩:PX)).map ROW)= .str (ps q) :: .any :: .int .i64 (us q) :: flat ((l.map fun q=>(⟨ps q,.any,us q⟩:PX)).map ROW):=rfl
   rw [e] at h
   match k,h with
   | 0,h=>simp at h;subst h;exact ⟨_,rfl,.inl ⟨rfl,rfl⟩⟩
   | 1,h=>simp at h;subst h;exact ⟨_,rfl,.inr rfl⟩
   | 2,h=>simp at h;subst h;exact ⟨_,rfl,.inl ⟨rfl,rfl⟩⟩
   | k+3,h =>
     simp only [List.getElem?_cons_succ] at h
     exact aIt ps us nl R l k y h
set_option maxHeartbeats 16000000 in
theorem aWM (g:GP) (h:aBm g) (cs:Nat->List Cap) (hc0:∀ q,(cs q).length=g.labs.length) (Q:AE->St->Prop)
 (hQ:∀ cs':Nat->List Cap,(∀ q,(cs' q).length=g.labs.length)->Q (.exit 4) ⟨[(1,.sl true 1 (g.ns.map I64)),(4,.ref 0 0 0),(6,.ref 1 0 0),(7,.sl false 1 (g.pl.map .str)),(11,.int .i64 (g.pl.length:Int)),(89,.bool false)],g.H cs' []⟩) (s0:St) (hs0:Sub 0 (dM (some [1,4,6,7,11]) s0) ⟨[(1,.sl true 1 (g.ns.map I64)),(4,.ref 0 0 0),(6,.ref 1 0 0),(7,.sl false 1 (g.pl.map .str)),(11,.int .i64 (((0:Nat):Int)))],g.H cs []⟩) :
 aw Tryz.prog (.loop 0 (some [1,4,6,7,11]) aAU) Q s0:=by
 refine aF (σ:=Nat×(Nat->List Cap)) (fun q=>⟨[(1,.sl true 1 (g.ns.map I64)),(4,.ref 0 0 0),(6,.ref 1 0 0),(7,.sl false 1 (g.pl.map .str)),(11,.int .i64 (q.1:Int))],g.H q.2 []⟩) (fun q=>q.1<=g.pl.length/\∀ w,(q.2 w).length=g.labs.length) (fun q=>g.pl.length-q.1) (0,cs) hs0 ⟨by simp,hc0⟩ ?_
 rintro ⟨i,cz⟩ ⟨hi,hcs⟩
 clear hc0 hs0
 simp only at hi hcs ⊢
 unfold aAU
 have hpl:=h.pl
 by_cases hil:i<g.pl.length
 · have hg:g.pl.getD i default=g.pl[i]:=by simp [hil]
   have hv:Vw true (g.H cz []) (.own 2 3 0 g.l.length) (.sl true 3 ((g.l.map fun q=>(⟨g.ps q,.any,g.us q⟩:PX)).map ROW)):=by
    refine Vw.aZa (cs:=gQ g.ps g.us g.labs.length g.l++List.replicate g.r .any) rfl (fun a ha=>?_) (by simp) (aIt _ _ _ _ _)
    obtain ⟨x,hx,rfl⟩:=List.mem_map.1 ha
    obtain ⟨q,hq,rfl⟩:=List.mem_map.1 hx
    rfl
   have hl7:=h.l.len.2
   have ck:=aGi false true g.labs (g.l.map fun q=>(⟨g.ps q,.any,g.us q⟩:PX)) g.pl[i] (by rw [List.length_map];omega) (fun q hq=>by
    obtain ⟨x,hx,rfl⟩:=List.mem_map.1 hq
    have:=h.ps x
    simp only
    omega)
   have hkl:(kW g.pl[i] (g.l.map fun q=>(⟨g.ps q,.any,g.us q⟩:PX))).length<=7:=by
    unfold kW
    rw [List.length_map]
    exact Nat.le_trans (List.length_filter_le _ _) (by rw [List.length_map];omega)
   generalize kW g.pl[i] (g.l.map fun q=>(⟨g.ps q,.any,g.us q⟩:PX))=ks at ck hkl
   simp only [GP.H] at hv ⊢
   refine Xa hg ?_
   refine ⟨by omega,by omega,?_⟩
   refine aE (aI.of (aM:=true) ck (.cons (Vw.aZi (Vw.refl rfl) hv rfl rfl) (.cons (Vw.refl rfl) .nil)) rfl (fun _=>rfl)) ?_
   refine Ya ?_
   unfold aJq
   refine Ya ?_
   refine aU9 g h ks hkl i (by omega) cz hcs _ (fun cs' hcs'=>?_) _ (.inl rfl)
   simp only [GP.H]
   refine Ya ?_
   exact ⟨(i+1,cs'),.inl rfl,⟨by simp only;omega,hcs'⟩,by simp only;omega⟩
 · have:i=g.pl.length:=by omega
   subst this
   have e:=hQ cz hcs
   simp only [GP.H] at e ⊢
   refine Ya ?_
   exact e
end Go.Proofs.YtakemdamegfcfaaGreat
