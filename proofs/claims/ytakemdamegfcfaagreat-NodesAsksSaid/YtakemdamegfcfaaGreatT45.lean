/- A part of a proof: what functions of the program compute. No condition. -/
import Derived.Test.YtakemdamegfcfaaGreatT38
import Derived.Test.YtakemdamegfcfaaGreatT40
import Derived.Test.YtakemdamegfcfaaGreatT44
import Derived.Test.YtakemdamegfcfaaGreatProg
import Derived.KernelRfl
import Derived.Test.YtakemdamegfcfaaGreatT6
set_option linter.unusedSimpArgs false
set_option linter.unusedVariables false
set_option maxHeartbeats 16000000
set_option maxRecDepth 100000
namespace Go.Proofs.YtakemdamegfcfaaGreat
open Go Go.Ab
theorem a3j (s:Sta) (hl:s.nodes.length<=2^20) (hn:0<=s.now/\s.now<=2000000000) (hc:∀ n∈s.nodes,0<=n.seen/\n.seen<=1000000000):aT Tryz.prog 29 [.agg (stC s)] (.sl false 1 (((s.nodes.filter (quiet s.now)).map Node.id).map I64)):=by
 refine aT.wk3 (aK aYZ (by simp) ?_)
 unfold aXK
 simp -implicitDefEqProofs(disch:=first|decide|omega)only[↓aA,aC,aB,simprocAttr,x8,stC]
 unfold aJM
 simp -implicitDefEqProofs(disch:=first|decide|omega)only[↓aA,aC,aB,simprocAttr,x8]
 refine aF (σ:=Nat) (fun k=>⟨[(1,.ref 0 0 0),(3,.own 1 1 0 ((s.nodes.take k).filter (quiet s.now)).length),(4,.int .i64 (k:Int))],[.box (stC s),.arr 1 ((((s.nodes.take k).filter (quiet s.now)).map Node.id).map I64)]⟩) (fun k=>k<=s.nodes.length) (fun k=>s.nodes.length-k) 0 ?_ (by omega) ?_
 · exact Sub.ofS [some 0,none]
 rintro k hk
 unfold aJL
 have hfl:=dA (p:=quiet s.now) (l:=s.nodes) (k:=k)
 by_cases hki:k<s.nodes.length
 · have hg:s.nodes.getD k default=s.nodes[k]:=by simp [hki]
   have hx:=hc _ (List.getElem_mem hki)
   have e:=cH (p:=quiet s.now) hki
   by_cases hu:s.nodes[k].up=true
   · by_cases h10:10<=s.now-s.nodes[k].seen
     · have hq:quiet s.now s.nodes[k]=true:=by unfold quiet;rw [hu,decide_eq_true h10];rfl
       rw [if_pos hq] at e
       generalize (s.nodes.take k).filter (quiet s.now)=out at e hfl ⊢
       simp -implicitDefEqProofs(disch:=first|decide|omega)only[↓aA,aC,aB,simprocAttr,x8,stC,lV,aBC,hg,hu]
       repeat refine And.intro (by omega) ?_
       refine ⟨k+1,?_,by omega,by omega⟩
       simp only [e,List.map_append,List.map_cons,List.map_nil,List.length_append,List.length_cons,List.length_nil]
       exact Sub.ofS [some 0,some 3]
     · have hq:quiet s.now s.nodes[k]=false:=by unfold quiet;rw [hu,decide_eq_false h10];rfl
       rw [if_neg (by rw [hq];simp),List.append_nil] at e
       simp -implicitDefEqProofs(disch:=first|decide|omega)only[↓aA,aC,aB,simprocAttr,x8,stC,lV,aBC,hg,hu]
       repeat refine And.intro (by omega) ?_
       refine ⟨k+1,?_,by omega,by omega⟩
       rw [e]
       exact .inl rfl
   · have hu:s.nodes[k].up=false:=by simpa using hu
     have hq:quiet s.now s.nodes[k]=false:=by unfold quiet;rw [hu];rfl
     rw [if_neg (by rw [hq];simp),List.append_nil] at e
     simp -implicitDefEqProofs(disch:=first|decide|omega)only[↓aA,aC,aB,simprocAttr,x8,stC,lV,aBC,hg,hu]
     repeat refine And.intro (by omega) ?_
     refine ⟨k+1,?_,by omega,by omega⟩
     rw [e]
     exact .inl rfl
 · have:k=s.nodes.length:=by omega
   subst this
   simp -implicitDefEqProofs(disch:=first|decide|omega)only[↓aA,aC,aB,simprocAttr,x8,stC,List.take_length]
   exact .inl (.inl (.inl rfl))
theorem a3E (s:Sta) (hl:s.nodes.length<=2^20) (hn:0<=s.now/\s.now<=2000000000) (hc:∀ n∈s.nodes,0<=n.seen/\n.seen<=1000000000):aT Tryz.prog 28 [.agg (stC s)] (.sl false 1 (((s.nodes.filter (quiet s.now)).map Node.id).map I64)):=by
 refine aT.wk3 (aK a5F (by simp) ?_)
 unfold a5r
 simp -implicitDefEqProofs(disch:=first|decide|omega)only[↓aA,aC,aB,simprocAttr,x8,bB]
 unfold a3A
 simp -implicitDefEqProofs(disch:=first|decide|omega)only[↓aA,aC,aB,simprocAttr,x8]
 refine aF (σ:=Nat) (fun k=>⟨[(1,.ref 0 0 0),(3,.own 1 1 0 ((s.nodes.take k).filter (quiet s.now)).length),(7,.sl false 8 (s.nodes.map bO)),(8,.int .i64 (s.nodes.length:Int)),(9,.int .i64 (k:Int))],[.box (stC s),.arr 1 ((((s.nodes.take k).filter (quiet s.now)).map Node.id).map I64)]⟩) (fun k=>k<=s.nodes.length) (fun k=>s.nodes.length-k) 0 ?_ (by omega) ?_
 · exact Sub.ofS [some 0,none]
 rintro k hk
 unfold a3z
 have hfl:=dA (p:=quiet s.now) (l:=s.nodes) (k:=k)
 by_cases hki:k<s.nodes.length
 · have hg:s.nodes.getD k default=s.nodes[k]:=by simp [hki]
   have hx:=hc _ (List.getElem_mem hki)
   have e:=cH (p:=quiet s.now) hki
   by_cases hu:s.nodes[k].up=true
   · by_cases h10:10<=s.now-s.nodes[k].seen
     · have hq:quiet s.now s.nodes[k]=true:=by unfold quiet;rw [hu,decide_eq_true h10];rfl
       rw [if_pos hq] at e
       generalize (s.nodes.take k).filter (quiet s.now)=out at e hfl ⊢
       simp -implicitDefEqProofs(disch:=first|decide|omega)only[↓aA,aC,aB,simprocAttr,x8,bB,aN,hg,hu]
       repeat refine And.intro (by omega) ?_
       refine ⟨k+1,?_,by omega,by omega⟩
       simp only [e,List.map_append,List.map_cons,List.map_nil,List.length_append,List.length_cons,List.length_nil]
       exact Sub.ofS [some 0,some 4]
     · have hq:quiet s.now s.nodes[k]=false:=by unfold quiet;rw [hu,decide_eq_false h10];rfl
       rw [if_neg (by rw [hq];simp),List.append_nil] at e
       simp -implicitDefEqProofs(disch:=first|decide|omega)only[↓aA,aC,aB,simprocAttr,x8,bB,aN,hg,hu]
       repeat refine And.intro (by omega) ?_
       refine ⟨k+1,?_,by omega,by omega⟩
       rw [e]
       exact Sub.ofS [some 0,some 1]
   · have hu:s.nodes[k].up=false:=by simpa using hu
     have hq:quiet s.now s.nodes[k]=false:=by unfold quiet;rw [hu];rfl
     rw [if_neg (by rw [hq];simp),List.append_nil] at e
     simp -implicitDefEqProofs(disch:=first|decide|omega)only[↓aA,aC,aB,simprocAttr,x8,bB,aN,hg,hu]
     repeat refine And.intro (by omega) ?_
     refine ⟨k+1,?_,by omega,by omega⟩
     rw [e]
     exact Sub.ofS [some 0,some 1]
 · have:k=s.nodes.length:=by omega
   subst this
   simp -implicitDefEqProofs(disch:=first|decide|omega)only[↓aA,aC,aB,simprocAttr,x8,stC,List.take_length]
   exact .inl (.inl (.inl rfl))
theorem a2I (l:List Int) (hl:l.length<2^62):aT Tryz.prog 27 [.sl false 1 (l.map I64),.sl false 1 (l.map I64)] (.bool true):=by
 unfold aT
 refine aK a5G (by simp) ?_
 unfold a5s
 simp -implicitDefEqProofs(disch:=first|decide|omega)only[↓aA,aC,aB,simprocAttr,x8,beq_self_eq_true,bne_self_eq_false,Bool.not_true,Bool.not_false,Bool.and_self]
 unfold a3C
 simp -implicitDefEqProofs(disch:=first|decide|omega)only[↓aA,aC,aB,simprocAttr,x8]
 refine aF (σ:=Nat) (fun k=>⟨[(0,.sl false 1 (l.map I64)),(1,.sl false 1 (l.map I64)),(5,.int .i64 (k:Int))],[]⟩) (fun k=>k<=l.length) (fun k=>l.length-k) 0 ?_ (by omega) ?_
 · first|exact .inl rfl|exact Sub.ofS [some 0,some 1]
 intro k hk
 unfold a3B
 by_cases hkl:k<l.length
 · have hg:l.getD k default=l[k]:=by simp [hkl]
   simp -implicitDefEqProofs(disch:=first|decide|omega)only[↓aA,aC,aB,simprocAttr,x8,I64,beq_self_eq_true,bne_self_eq_false,Bool.not_true,Bool.not_false,Bool.and_self,hg]
   repeat' first
    | with_reducible apply And.intro
    | omega
    | exact ⟨k+1,.inl rfl,by omega,by omega⟩
 have hke:k=l.length:=by omega
 subst hke
 simp -implicitDefEqProofs(disch:=first|decide|omega)only[↓aA,aC,aB,simprocAttr,x8,I64,beq_self_eq_true,bne_self_eq_false,Bool.not_true,Bool.not_false,Bool.and_self]
abbrev ob (d:Nat) (c:CO):aP:=⟨some d,c,none⟩
abbrev qb (d g:Nat) (c:CO):aP:=⟨some d,c,some (g,false)⟩
abbrev nb (c:CO):aP:=⟨none,c,none⟩
abbrev tb (k:Nat):Operand:=.tmp k
abbrev mb (k:Nat):CO:=.mv (.tmp k)
def a31:CC:=(fun (c:CC) (_:((.seq (.seq (.reg [ob 46 (mb 10),ob 47 (mb 8),ob 48 (.lenl (tb 47)),ob 49 (.bin .lss (tb 46) (tb 48))] false [] (some [7,8,10,49])) (.cond (tb 49) .skip (.exit 2))) (.seq (.block (some [7,8,10]) 3 (.seq (.sch (.fin [ob 54 (mb 8),ob 55 (mb 10),ob 56 (.iad 1 (tb 54) (tb 55)),ob 57 (.ldp 1 false (tb 56)),ob 53 (.ld 10 true (tb 7)),ob 11 (.al [(.int .i64 0),(.int .i64 0),(.int .i64 0),(.int .i64 0),(.int .i64 0),(.int .i64 0),(.int .i64 0),(.bool false)]),ob 58 (.calf 23 [(tb 53),(tb 57)]),ob 52 (mb 58),ob 59 (.ext 0 (tb 52)),ob 60 (.ext 1 (tb 52)),nb (.st 8 (tb 11) (tb 59)),ob 12 (mb 60)]) [54,55,56,57,52,59,60] [] (some [7,8,10,11,12])) (.seq (.sch (.fin [ob 63 (mb 8),ob 64 (mb 10),ob 65 (.iad 1 (tb 63) (tb 64)),ob 66 (.ldp 1 false (tb 65)),ob 62 (.ld 10 true (tb 7)),ob 13 (.al [(.int .i64 0),(.int .i64 0),(.int .i64 0),(.int .i64 0),(.int .i64 0),(.int .i64 0),(.int .i64 0),(.bool false)]),ob 67 (.calf 24 [(tb 62),(tb 66)]),ob 61 (mb 67),ob 68 (.ext 0 (tb 61)),ob 69 (.ext 1 (tb 61)),nb (.st 8 (tb 13) (tb 68)),ob 14 (mb 69)]) [63,64,65,66,61,68,69] [] (some [7,8,10,11,12,13,14])) (.seq (.sch (.fin [ob 70 (.ld 8 true (tb 11)),ob 71 (.ld 8 true (tb 13)),ob 72 (.seq true [(.int .i64 0),(.int .i64 0),(.int .i64 0),(.int .i64 0),(.int .i64 0),(.int .i64 0),(.int .i64 0),(.bool false)] (tb 70) (tb 71)),ob 73 (mb 72),qb 74 73 (mb 12),qb 75 73 (mb 14),qb 76 73 (.beq true (tb 74) (tb 75)),ob 77 (.pick (tb 73) (.const (.bool true)) (tb 76)),ob 78 (mb 77),qb 80 78 (mb 8),qb 81 78 (mb 10),qb 82 78 (.iad 1 (tb 80) (tb 81)),qb 86 78 (mb 8),qb 87 78 (mb 10),qb 88 78 (.iad 1 (tb 86) (tb 87)),qb 83 78 (.ldp 1 false (tb 82)),qb 89 78 (.ldp 1 false (tb 88)),qb 79 78 (.ld 10 true (tb 7)),qb 85 78 (.ld 10 true (tb 7)),qb 84 78 (.calf 20 [(tb 79),(tb 83)]),qb 90 78 (.calf 25 [(tb 85),(tb 89)]),qb 91 78 (.seq true [(.int .i64 0),(.int .i64 0)] (tb 84) (tb 90)),ob 92 (.pick (tb 78) (.const (.bool true)) (tb 91)),ob 93 (mb 92),qb 95 93 (mb 8),qb 96 93 (mb 10),qb 97 93 (.iad 1 (tb 95) (tb 96)),qb 101 93 (mb 8),qb 102 93 (mb 10),qb 103 93 (.iad 1 (tb 101) (tb 102)),qb 98 93 (.ldp 1 false (tb 97)),qb 104 93 (.ldp 1 false (tb 103)),qb 94 93 (.ld 10 true (tb 7)),qb 100 93 (.ld 10 true (tb 7)),qb 99 93 (.calf 21 [(tb 94),(tb 98)]),qb 105 93 (.calf 26 [(tb 100),(tb 104)]),qb 106 93 (.seq true [(.int .i64 0),(.int .i64 0)] (tb 99) (tb 105)),ob 107 (.pick (tb 93) (.const (.bool true)) (tb 106))]) [72,73,74,75,76,77,78,80,81,82,86,87,88,83,89,91,92,93,95,96,97,101,102,103,98,104,106] [] (some [7,8,10,107])) (.cond (tb 107) (.seq (.reg [ob 6 (.mv (.const (.bool false)))] false [6] (some [6])) .ret) .skip))))) (.cat (.tidy 0 (.reg [ob 50 (mb 10),ob 51 (.bin .add (tb 50) (.const (.int .i64 1))),ob 10 (mb 51)] false [] (some [7,8,10]))) (.reg [] false [] (some [7,8,10]))))))=c)=>c) _ (by conv=>lhs;reduce)
def a33:CC:=(fun (c:CC->CC) (_:(fun a0=>(.block (some [7]) 2 (.loop 0 (some [7,8,10]) a0)))=c)=>c) _ (by conv=>lhs;reduce) a31
def a30:CC:=(fun (c:CC) (_:((.seq (.seq (.reg [ob 30 (mb 9),ob 31 (.fad 2 (tb 7)),ob 32 (.ld 1 false (tb 31)),ob 33 (.lenl (tb 32)),ob 34 (.bin .lss (tb 30) (tb 33))] false [] (some [7,8,9,34])) (.cond (tb 34) .skip (.exit 0))) (.seq (.block (some [7,8,9]) 1 (.reg [ob 37 (mb 8),ob 38 (.fad 2 (tb 7)),ob 39 (.ld 1 false (tb 38)),ob 40 (mb 9),ob 41 (.iad 8 (tb 39) (tb 40)),ob 42 (.fad 0 (tb 41)),ob 43 (.ld 1 false (tb 42)),ob 44 (.bls 1 1 (.int .i64 0) [(0,(tb 43))]),ob 45 (.app 1 8 (tb 37) (tb 44)),ob 8 (mb 45)] false [] (some [7,8,9]))) (.reg [ob 35 (mb 9),ob 36 (.bin .add (tb 35) (.const (.int .i64 1))),ob 9 (mb 36)] false [] (some [7,8,9])))))=c)=>c) _ (by conv=>lhs;reduce)
def a32:CC:=(fun (c:CC->CC) (_:(fun a0=>(.block (some [7,8]) 0 (.loop 0 (some [7,8,9]) a0)))=c)=>c) _ (by conv=>lhs;reduce) a30
def a3p:CC:=(fun (c:CC->CC->CC) (_:(fun a0 a1=>(.seq (.reg [ob 28 (mb 1),ob 29 (.bls 1 1 (.int .i64 0) [(0,(tb 28))]),ob 8 (mb 29)] false [] (some [7,8])) (.seq (.seq (.reg [ob 9 (.mv (.const (.int .i64 0)))] false [] (some [7,8,9])) a0) (.seq (.seq (.cat (.tidy 0 (.reg [ob 10 (.mv (.const (.int .i64 0)))] false [] (some [7,8,10]))) (.reg [] false [] (some [7,8,10]))) a1) (.seq (.sch (.fin [ob 108 (.ld 10 true (tb 7)),ob 110 (.ld 10 true (tb 7)),ob 109 (.calf 28 [(tb 108)]),ob 111 (.calf 29 [(tb 110)]),ob 112 (.calf 27 [(tb 109),(tb 111)]),ob 6 (mb 112)]) [] [6] (some [6])) .ret)))))=c)=>c) _ (by conv=>lhs;reduce) a32 a33
def cd5:CC:=(fun (c:CC->CC) (_:(fun a0=>(.seq (.reg [ob 3 (.bx (tb 0)),ob 6 (.mv (.const (.bool false)))] false [] (some [1,2,3])) (.seq (.seq (.reg [ob 15 (.call 13 []),ob 16 (.un .not (tb 15))] false [] (some [1,2,3,16])) (.cond (tb 16) (.seq (.reg [ob 6 (.mv (.const (.bool false)))] false [6] (some [6])) .ret) .skip)) (.seq (.seq (.reg [ob 17 (.ld 3 true (tb 3)),ob 18 (.call 14 [(tb 17)]),ob 19 (.un .not (tb 18))] false [] (some [1,2,3,19])) (.cond (tb 19) (.seq (.reg [ob 6 (.mv (.const (.bool true)))] false [6] (some [6])) .ret) .skip)) (.seq (.reg [ob 20 (.ld 3 true (tb 3)),ob 21 (.call 15 [(tb 20)]),ob 7 (.al [.aD,.aD,.aD,.aD,.aD,.aD,.aD,(.int .i64 0),(.int .i64 0),(.int .i64 0)]),nb (.st 10 (tb 7) (tb 21))] false [] (some [1,2,7])) (.seq (.sch (.fin [ob 22 (.fad 7 (tb 7)),ob 24 (mb 2),ob 23 (.ld 1 false (tb 22)),ob 25 (.calf 16 [(tb 24),(.const (.int .i64 15))]),ob 26 (.bin .add (tb 23) (tb 25)),ob 27 (.fad 7 (tb 7)),nb (.st 1 (tb 27) (tb 26))]) [22,24,26,27] [] (some [1,7])) a0))))))=c)=>c) _ (by conv=>lhs;reduce) a3p
theorem a5w:aZ Tryz.prog 5 cd5 [6] 113:=aZ.of Tryz.f5 Tryz.func5 rfl
set_option maxHeartbeats 4000000 in
theorem a4H (t:Sta) (hnL:t.nodes.length<=12) (hcL:t.conts.length<=201) (hco:∀ c∈t.conts,okV c.mem c.cores) (hno:∀ n∈t.nodes,0<=n.mem/\n.mem<=2^30/\0<=n.cores/\n.cores<=2^30) (hns:∀ n∈t.nodes,0<=n.seen/\n.seen<=1000000000) (hnow:0<=t.now/\t.now<=2000000000) (id:Int) (o:AO):aw Tryz.prog a3p (aG1 [6] fun y _=>y= .bool true) ⟨[(1,.int .i64 id),(7,.ref 1 0 0)],[o,.box (stC t)]⟩:=by
 have c23:=fun id=>xV t (by omega) id
 have c24:=fun id=>kV t (by omega) id
 have c20:=fun id=>xS t (by omega) hco id
 have c25:=fun id=>aHG t (by omega) hco id
 have c21:=fun id=>xU t (by omega) (by omega) hco hno id
 have c26:=fun id=>yB t (by omega) (by omega) hco hno id
 have c28:=a3E t (by omega) hnow hns
 have c29:=a3j t (by omega) hnow hns
 have c27:=a2I ((t.nodes.filter (quiet t.now)).map Node.id) (by rw [List.length_map];have:=List.length_filter_le (quiet t.now) t.nodes;omega)
 unfold dT at c23 c24
 unfold stC at c20 c25 c21 c26 c23 c24 c28 c29
 unfold a3p
 simp -implicitDefEqProofs(disch:=first|decide|omega)only[↓aA,aC,aB,simprocAttr,x8,bB]
 unfold a32
 simp -implicitDefEqProofs(disch:=first|decide|omega)only[↓aA,aC,aB,simprocAttr,x8]
 refine aF (σ:=Nat×List Int) (fun z=>⟨[(7,.ref 0 0 0),(8,.own 1 1 0 z.2.length),(9,.int .i64 (z.1:Int))],[.box (stC t),.arr 1 (z.2.map I64)]⟩) (fun z=>z.1<=t.nodes.length/\z.2.length<=z.1+1) (fun z=>t.nodes.length-z.1) (0,[id]) ?_ ⟨by simp,by simp⟩ ?_
 · exact Sub.ofS [some 1,some 2]
 rintro ⟨i,L⟩ ⟨hi,hL⟩
 simp only at hi hL
 unfold a30
 by_cases hn:i<t.nodes.length
 · simp -implicitDefEqProofs(disch:=first|decide|omega)only[↓aA,aC,aB,simprocAttr,x8,bB,aN]
   repeat refine And.intro (by omega) ?_
   refine ⟨(i+1,L++[(t.nodes.getD i default).id]),?_,⟨by simp only;omega,by simp;omega⟩,by simp only;omega⟩
   simp only [List.length_append,List.map_append,List.map_cons,List.map_nil,List.length_cons,List.length_nil]
   exact Sub.ofS [some 0,some 3]
 simp -implicitDefEqProofs(disch:=first|decide|omega)only[↓aA,aC,aB,simprocAttr,x8,bB]
 refine dF 1 rfl ?_
 simp -implicitDefEqProofs(disch:=first|decide|omega)only[↓aA,aC,aB,simprocAttr,x8,AO.fz,AV.fz1,bB]
 refine dZ ?_
 unfold a33
 simp -implicitDefEqProofs(disch:=first|decide|omega)only[↓aA,aC,aB,simprocAttr,x8]
 refine aF (σ:=Nat) (fun j=>⟨[(7,.ref 0 0 0),(8,.sl false 1 (L.map I64)),(10,.int .i64 (j:Int))],[.box (stC t)]⟩) (fun j=>j<=L.length) (fun j=>L.length-j) 0 ?_ (by omega) ?_
 · exact Sub.ofS [some 0]
 intro j hj
 unfold a31
 by_cases hjl:j<L.length
 · simp -implicitDefEqProofs(disch:=first|decide|omega)only[↓aA,aC,aB,simprocAttr,x8,bB,aN,eG]
   repeat' first
    | with_reducible apply And.intro
    | omega
    | (refine bP (c23 _) rfl rfl ?_;simp -implicitDefEqProofs(disch:=first|decide|omega)only[↓aA,aC,aB,simprocAttr,x8,bB,aN,eG,beq_self_eq_true,bne_self_eq_false,Bool.not_true,Bool.not_false,Bool.and_self])
    | (refine bP (c24 _) rfl rfl ?_;simp -implicitDefEqProofs(disch:=first|decide|omega)only[↓aA,aC,aB,simprocAttr,x8,bB,aN,eG,beq_self_eq_true,bne_self_eq_false,Bool.not_true,Bool.not_false,Bool.and_self])
    | (refine bP (c20 _) rfl rfl ?_;simp -implicitDefEqProofs(disch:=first|decide|omega)only[↓aA,aC,aB,simprocAttr,x8,bB,aN,eG,beq_self_eq_true,bne_self_eq_false,Bool.not_true,Bool.not_false,Bool.and_self])
    | (refine bP (c25 _) rfl rfl ?_;simp -implicitDefEqProofs(disch:=first|decide|omega)only[↓aA,aC,aB,simprocAttr,x8,bB,aN,eG,beq_self_eq_true,bne_self_eq_false,Bool.not_true,Bool.not_false,Bool.and_self])
    | (refine bP (c21 _) rfl rfl ?_;simp -implicitDefEqProofs(disch:=first|decide|omega)only[↓aA,aC,aB,simprocAttr,x8,bB,aN,eG,beq_self_eq_true,bne_self_eq_false,Bool.not_true,Bool.not_false,Bool.and_self])
    | (refine bP (c26 _) rfl rfl ?_;simp -implicitDefEqProofs(disch:=first|decide|omega)only[↓aA,aC,aB,simprocAttr,x8,bB,aN,eG,beq_self_eq_true,bne_self_eq_false,Bool.not_true,Bool.not_false,Bool.and_self])
    | (refine a2q _ ?_;simp -implicitDefEqProofs(disch:=first|decide|omega)only[↓aA,aC,aB,simprocAttr,x8,bB,aN,eG,beq_self_eq_true,bne_self_eq_false,Bool.not_true,Bool.not_false,Bool.and_self,if_true])
    | (refine aN4 ?_;simp -implicitDefEqProofs(disch:=first|decide|omega)only[↓aA,aC,aB,simprocAttr,x8,bB,aN,eG,beq_self_eq_true,bne_self_eq_false,Bool.not_true,Bool.not_false,Bool.and_self])
    | (refine dZ ?_;simp -implicitDefEqProofs(disch:=first|decide|omega)only[↓aA,aC,aB,simprocAttr,x8,bB])
    | exact ⟨j+1,.inl rfl,by omega,by omega⟩
    | (refine ⟨j+1,?_,by omega,by omega⟩;(refine Sub.of0 [some 0] rfl ?_ rfl ?_<;>repeat' first|trivial|rfl|exact .inl rfl|exact .inr ⟨rfl,_,_,rfl⟩|(simp;done)|(simp;omega)|refine And.intro ?_ ?_);done)
 · simp -implicitDefEqProofs(disch:=first|decide|omega)only[↓aA,aC,aB,simprocAttr,x8,bB]
   repeat' first
    | with_reducible apply And.intro
    | omega
    | (refine bP (c28) rfl rfl ?_;simp -implicitDefEqProofs(disch:=first|decide|omega)only[↓aA,aC,aB,simprocAttr,x8,bB])
    | (refine bP (c29) rfl rfl ?_;simp -implicitDefEqProofs(disch:=first|decide|omega)only[↓aA,aC,aB,simprocAttr,x8,bB])
    | (refine bP (c27) rfl rfl ?_;simp -implicitDefEqProofs(disch:=first|decide|omega)only[↓aA,aC,aB,simprocAttr,x8,bB])
set_option maxHeartbeats 4000000 in
theorem a5u (x:Scr) (id m:Int):aW Tryz.prog 5 [.agg (jJ x),.int .i64 id,.int .i64 m] [] fun y _=>y= .bool true:=by
 refine aK a5w (by simp) ?_
 unfold cd5
 have kf:=aSv x
 have ks:=aGB x
 generalize hx:wM x=q at kf ks
 unfold jJ at kf ks ⊢
 simp -implicitDefEqProofs(disch:=first|decide|omega)only[↓aA,aC,aB,simprocAttr,x8,bB,aN]
 refine aE (aI.of (aM:=false) (aIe) (.refl rfl) rfl (by simp)) ?_
 simp -implicitDefEqProofs(disch:=first|decide|omega)only[↓aA,aC,aB,simprocAttr,x8,bB,aN]
 refine aE (aI.of (aM:=false) (kf) (.refl rfl) rfl (by simp)) ?_
 cases q
 · simp -implicitDefEqProofs(disch:=first|decide|omega)only[↓aA,aC,aB,simprocAttr,x8,bB]
 simp -implicitDefEqProofs(disch:=first|decide|omega)only[↓aA,aC,aB,simprocAttr,x8,bB,aN]
 refine aH (ks rfl) rfl (fun y hy=>zZ hy) ?_
 rintro _ ⟨s,rfl,h⟩
 have K:=okS h (by omega)
 have hnow:=K.now
 have r:=gO m 15 (by omega)
 have c:=a2i m 15 (by omega) (by omega)
 generalize inF m 15=w at r c
 simp -implicitDefEqProofs(disch:=first|decide|omega)only[↓aA,aC,aB,simprocAttr,x8,bB,aN]
 repeat' first
  | with_reducible apply And.intro
  | omega
  | (refine bP (c) rfl rfl ?_;simp -implicitDefEqProofs(disch:=first|decide|omega)only[↓aA,aC,aB,simprocAttr,x8,bB,aN])
 all_goals exact a4H { s with now:=s.now+w } K.st.n K.st.k K.co K.no K.ns ⟨by simp only;omega,by simp only;omega⟩ id _
theorem a25 (x:Scr) (id m:Int):aW Tryz.prog 5 [SCR x,I64 id,I64 m] [] fun y _=>y= .bool true:=aGb x (a5u x id m) rfl fun y hy=>by subst hy;exact ⟨rfl,rfl⟩
end Go.Proofs.YtakemdamegfcfaaGreat
