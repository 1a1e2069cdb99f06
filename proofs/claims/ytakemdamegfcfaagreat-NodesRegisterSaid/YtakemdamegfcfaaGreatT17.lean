/- A part of a proof: what functions of the program compute. No condition. -/
import Derived.Test.YtakemdamegfcfaaGreatProg
import Derived.KernelRfl
import Derived.Test.YtakemdamegfcfaaGreatT6
import Derived.Test.YtakemdamegfcfaaGreatT14
set_option linter.unusedSimpArgs false
set_option linter.unusedVariables false
set_option maxHeartbeats 16000000
set_option maxRecDepth 100000
namespace Go.Proofs.YtakemdamegfcfaaGreat
open Go Go.Ab
def aOl:CC:=(.seq (.seq (.reg [⟨(some 15),(.mv (.tmp 4)),none⟩,⟨(some 16),(.fad 2 (.tmp 3)),none⟩,⟨(some 17),(.ld 1 false (.tmp 16)),none⟩,⟨(some 18),(.lenl (.tmp 17)),none⟩,⟨(some 19),(.bin .lss (.tmp 15) (.tmp 18)),none⟩] false [] (some [3,4,19])) (.cond (.tmp 19) .skip (.exit 0))) (.seq (.block (some [3,4]) 1 (.seq (.reg [⟨(some 22),(.fad 2 (.tmp 3)),none⟩,⟨(some 23),(.ld 1 false (.tmp 22)),none⟩,⟨(some 24),(.mv (.tmp 4)),none⟩,⟨(some 25),(.iad 8 (.tmp 23) (.tmp 24)),none⟩,⟨(some 26),(.ld 8 true (.tmp 25)),none⟩,⟨(some 5),(.al [(.int .i64 0),(.int .i64 0),(.int .i64 0),(.int .i64 0),(.int .i64 0),(.int .i64 0),(.int .i64 0),(.bool false)]),none⟩,⟨none,(.st 8 (.tmp 5) (.tmp 26)),none⟩] false [] (some [3,4,5])) (.seq (.sch (.pre [⟨(some 28),(.fad 0 (.tmp 5)),none⟩,⟨(some 32),(.fad 0 (.tmp 5)),none⟩,⟨(some 27),(.ld 10 true (.tmp 3)),none⟩,⟨(some 29),(.ld 1 false (.tmp 28)),none⟩,⟨(some 31),(.ld 10 true (.tmp 3)),none⟩,⟨(some 33),(.ld 1 false (.tmp 32)),none⟩] (.pre [⟨(some 30),(.calf 20 [(.tmp 27),(.tmp 29)]),none⟩] (.pre [⟨(some 34),(.calf 21 [(.tmp 31),(.tmp 33)]),none⟩] (.fin [⟨(some 6),(.al [(.int .i64 0),(.int .i64 0)]),none⟩,⟨(some 7),(.al [(.int .i64 0),(.int .i64 0)]),none⟩,⟨none,(.st 2 (.tmp 6) (.tmp 30)),none⟩,⟨none,(.st 2 (.tmp 7) (.tmp 34)),none⟩]) (.fin [⟨(some 7),(.al [(.int .i64 0),(.int .i64 0)]),none⟩,⟨(some 6),(.al [(.int .i64 0),(.int .i64 0)]),none⟩,⟨none,(.st 2 (.tmp 6) (.tmp 30)),none⟩,⟨none,(.st 2 (.tmp 7) (.tmp 34)),none⟩])) (.pre [] (.fin [⟨(some 6),(.al [(.int .i64 0),(.int .i64 0)]),none⟩,⟨(some 7),(.al [(.int .i64 0),(.int .i64 0)]),none⟩,⟨(some 34),(.calf 21 [(.tmp 31),(.tmp 33)]),none⟩,⟨none,(.st 2 (.tmp 6) (.tmp 30)),none⟩,⟨none,(.st 2 (.tmp 7) (.tmp 34)),none⟩]) (.fin [⟨(some 7),(.al [(.int .i64 0),(.int .i64 0)]),none⟩,⟨(some 6),(.al [(.int .i64 0),(.int .i64 0)]),none⟩,⟨(some 34),(.calf 21 [(.tmp 31),(.tmp 33)]),none⟩,⟨none,(.st 2 (.tmp 6) (.tmp 30)),none⟩,⟨none,(.st 2 (.tmp 7) (.tmp 34)),none⟩]))) (.pre [] (.fin [⟨(some 6),(.al [(.int .i64 0),(.int .i64 0)]),none⟩,⟨(some 7),(.al [(.int .i64 0),(.int .i64 0)]),none⟩,⟨(some 30),(.calf 20 [(.tmp 27),(.tmp 29)]),none⟩,⟨(some 34),(.calf 21 [(.tmp 31),(.tmp 33)]),none⟩,⟨none,(.st 2 (.tmp 6) (.tmp 30)),none⟩,⟨none,(.st 2 (.tmp 7) (.tmp 34)),none⟩]) (.fin [⟨(some 7),(.al [(.int .i64 0),(.int .i64 0)]),none⟩,⟨(some 6),(.al [(.int .i64 0),(.int .i64 0)]),none⟩,⟨(some 30),(.calf 20 [(.tmp 27),(.tmp 29)]),none⟩,⟨(some 34),(.calf 21 [(.tmp 31),(.tmp 33)]),none⟩,⟨none,(.st 2 (.tmp 6) (.tmp 30)),none⟩,⟨none,(.st 2 (.tmp 7) (.tmp 34)),none⟩]))) [28,32] [] (some [3,4,5,6,7])) (.seq (.sch (.fin [⟨(some 35),(.fad 7 (.tmp 5)),none⟩,⟨(some 36),(.ld 1 false (.tmp 35)),none⟩,⟨(some 37),(.mv (.tmp 36)),none⟩,⟨(some 41),(.fad 3 (.tmp 5)),(some (37,true))⟩,⟨(some 38),(.ld 2 true (.tmp 6)),(some (37,true))⟩,⟨(some 39),(.ld 2 true (.tmp 7)),(some (37,true))⟩,⟨(some 42),(.ld 2 true (.tmp 41)),(some (37,true))⟩,⟨(some 40),(.calf 22 [(.tmp 38),(.tmp 39)]),(some (37,true))⟩,⟨(some 43),(.seq true [(.int .i64 0),(.int .i64 0)] (.tmp 40) (.tmp 42)),(some (37,true))⟩,⟨(some 44),(.pick (.tmp 37) (.tmp 43) (.const (.bool false))),none⟩,⟨(some 45),(.mv (.tmp 44)),none⟩,⟨(some 46),(.fad 7 (.tmp 5)),(some (45,false))⟩,⟨(some 47),(.ld 1 false (.tmp 46)),(some (45,false))⟩,⟨(some 48),(.un .not (.tmp 47)),(some (45,false))⟩,⟨(some 49),(.mv (.tmp 48)),(some (45,false))⟩,⟨(some 51),(.bld [(.int .i64 0),(.int .i64 0)] []),(some (49,true))⟩,⟨(some 50),(.ld 2 true (.tmp 7)),(some (49,true))⟩,⟨(some 52),(.seq true [(.int .i64 0),(.int .i64 0)] (.tmp 50) (.tmp 51)),(some (49,true))⟩,⟨(some 53),(.mv (.tmp 52)),(some (49,true))⟩,⟨(some 55),(.bld [(.int .i64 0),(.int .i64 0)] []),(some (53,false))⟩,⟨(some 54),(.ld 2 true (.tmp 6)),(some (53,false))⟩,⟨(some 56),(.seq true [(.int .i64 0),(.int .i64 0)] (.tmp 54) (.tmp 55)),(some (53,false))⟩,⟨(some 57),(.pick (.tmp 53) (.const (.bool true)) (.tmp 56)),(some (49,true))⟩,⟨(some 58),(.pick (.tmp 49) (.tmp 57) (.const (.bool false))),(some (45,false))⟩,⟨(some 59),(.pick (.tmp 45) (.const (.bool true)) (.tmp 58)),none⟩]) [35,37,41,43,44,45,46,48,49,51,52,53,55,56,57,58] [] (some [3,4,59])) (.cond (.tmp 59) (.seq (.reg [⟨(some 2),(.mv (.const (.bool false))),none⟩] false [2] (some [2])) .ret) .skip))))) (.reg [⟨(some 20),(.mv (.tmp 4)),none⟩,⟨(some 21),(.bin .add (.tmp 20) (.const (.int .i64 1))),none⟩,⟨(some 4),(.mv (.tmp 21)),none⟩] false [] (some [3,4]))))
def aOm:CC:=(.block (some []) 0 (.loop 0 (some [3,4]) aOl))
def cc4:CC:=(.seq (.reg [⟨(some 1),(.bx (.tmp 0)),none⟩,⟨(some 2),(.mv (.const (.bool false))),none⟩] false [] (some [1])) (.seq (.seq (.reg [⟨(some 8),(.call 13 []),none⟩,⟨(some 9),(.un .not (.tmp 8)),none⟩] false [] (some [1,9])) (.cond (.tmp 9) (.seq (.reg [⟨(some 2),(.mv (.const (.bool false))),none⟩] false [2] (some [2])) .ret) .skip)) (.seq (.seq (.reg [⟨(some 10),(.ld 3 true (.tmp 1)),none⟩,⟨(some 11),(.call 14 [(.tmp 10)]),none⟩,⟨(some 12),(.un .not (.tmp 11)),none⟩] false [] (some [1,12])) (.cond (.tmp 12) (.seq (.reg [⟨(some 2),(.mv (.const (.bool true))),none⟩] false [2] (some [2])) .ret) .skip)) (.seq (.reg [⟨(some 13),(.ld 3 true (.tmp 1)),none⟩,⟨(some 14),(.call 15 [(.tmp 13)]),none⟩,⟨(some 3),(.al [.aD,.aD,.aD,.aD,.aD,.aD,.aD,(.int .i64 0),(.int .i64 0),(.int .i64 0)]),none⟩,⟨none,(.st 10 (.tmp 3) (.tmp 14)),none⟩] false [] (some [3])) (.seq (.seq (.reg [⟨(some 4),(.mv (.const (.int .i64 0))),none⟩] false [] (some [3,4])) aOm) (.seq (.reg [⟨(some 2),(.mv (.const (.bool true))),none⟩] false [2] (some [2])) .ret))))))
theorem is4:aZ Tryz.prog 4 cc4 [2] 60:=aZ.mk (by kernel_rfl) ⟨Tryz.f4,_,Tryz.func4,rfl,by kernel_rfl,by kernel_rfl,by kernel_rfl,by kernel_rfl,by kernel_rfl⟩
def aXV:CC:=(.seq (.reg [⟨(some 0),(.mv (.const (.bool false))),none⟩] false [] (some [])) (.seq (.reg [⟨(some 6),(.call 54 []),none⟩,⟨(some 7),(.bld [(.int .i64 0),(.int .i64 0)] [(0,(1,(.const (.int .i64 8)))),(1,(1,(.const (.int .i64 4))))]),none⟩,⟨(some 8),(.bld [(.int .i64 0),(.int .i64 0),(.int .i64 0),(.int .i64 0),(.int .i64 0),(.int .i64 0),(.int .i64 0),(.bool false)] [(0,(1,(.const (.int .i64 3)))),(3,(2,(.tmp 7)))]),none⟩,⟨(some 9),(.call 17 [(.tmp 6),(.tmp 8)]),none⟩,⟨(some 5),(.mv (.tmp 9)),none⟩,⟨(some 10),(.ext 0 (.tmp 5)),none⟩,⟨(some 11),(.ext 1 (.tmp 5)),none⟩,⟨(some 1),(.al [.aD,.aD,.aD,.aD,.aD,.aD,.aD,(.int .i64 0),(.int .i64 0),(.int .i64 0)]),none⟩,⟨none,(.st 10 (.tmp 1) (.tmp 10)),none⟩,⟨(some 2),(.mv (.tmp 11)),none⟩] false [] (some [1,2])) (.seq (.reg [⟨(some 13),(.ld 10 true (.tmp 1)),none⟩,⟨(some 14),(.call 23 [(.tmp 13),(.const (.int .i64 3))]),none⟩,⟨(some 12),(.mv (.tmp 14)),none⟩,⟨(some 15),(.ext 0 (.tmp 12)),none⟩,⟨(some 16),(.ext 1 (.tmp 12)),none⟩,⟨(some 3),(.al [(.int .i64 0),(.int .i64 0),(.int .i64 0),(.int .i64 0),(.int .i64 0),(.int .i64 0),(.int .i64 0),(.bool false)]),none⟩,⟨none,(.st 8 (.tmp 3) (.tmp 15)),none⟩,⟨(some 4),(.mv (.tmp 16)),none⟩] false [] (some [1,2,3,4])) (.seq (.reg [⟨(some 17),(.mv (.tmp 2)),none⟩,⟨(some 18),(.bin .eql (.tmp 17) (.const (.int .i64 0))),none⟩,⟨(some 19),(.mv (.tmp 18)),none⟩,⟨(some 20),(.mv (.tmp 4)),(some (19,true))⟩,⟨(some 21),(.pick (.tmp 19) (.tmp 20) (.const (.bool false))),none⟩,⟨(some 22),(.mv (.tmp 21)),none⟩,⟨(some 23),(.fad 7 (.tmp 3)),(some (22,true))⟩,⟨(some 24),(.ld 1 false (.tmp 23)),(some (22,true))⟩,⟨(some 25),(.pick (.tmp 22) (.tmp 24) (.const (.bool false))),none⟩,⟨(some 26),(.mv (.tmp 25)),none⟩,⟨(some 27),(.fad 6 (.tmp 3)),(some (26,true))⟩,⟨(some 28),(.ld 1 false (.tmp 27)),(some (26,true))⟩,⟨(some 29),(.bin .eql (.tmp 28) (.const (.int .i64 0))),(some (26,true))⟩,⟨(some 30),(.pick (.tmp 26) (.tmp 29) (.const (.bool false))),none⟩,⟨(some 31),(.mv (.tmp 30)),none⟩,⟨(some 32),(.ld 10 true (.tmp 1)),(some (31,true))⟩,⟨(some 33),(.call 21 [(.tmp 32),(.const (.int .i64 3))]),(some (31,true))⟩,⟨(some 34),(.bld [(.int .i64 0),(.int .i64 0)] [(0,(1,(.const (.int .i64 8)))),(1,(1,(.const (.int .i64 4))))]),(some (31,true))⟩,⟨(some 35),(.seq false [(.int .i64 0),(.int .i64 0)] (.tmp 33) (.tmp 34)),(some (31,true))⟩,⟨(some 36),(.pick (.tmp 31) (.tmp 35) (.const (.bool false))),none⟩,⟨(some 0),(.mv (.tmp 36)),none⟩] false [0] (some [0])) .ret))))
theorem aY1:aZ Tryz.prog 13 aXV [0] 37:=aZ.mk (by kernel_rfl) ⟨Tryz.f13,_,Tryz.func13,rfl,by kernel_rfl,by kernel_rfl,by kernel_rfl,by kernel_rfl,by kernel_rfl⟩
theorem aBt (s:Sta) (hl:s.conts.length<2^38) (hs:s.slots.length<2^38) (id:Int):aT Tryz.prog 91 [.agg (stC s),.int .i64 id] (.tup [.agg (stC (uT s id)),.sl false 1 ((aBv s id).map I64)]):=by
 unfold aT
 refine aO aVf (by simp) ?_
 unfold aXn
 simp -implicitDefEqProofs(disch:=first|decide|omega)only[↓aA,aC,aB,simprocAttr,stC]
 unfold aJc
 simp -implicitDefEqProofs(disch:=first|decide|omega)only[↓aA,aC,aB,simprocAttr]
 refine aF (σ:=Nat) (fun k=>⟨[(1,.int .i64 id),(2,.ref 0 0 0),(4,.ref 1 0 0),(6,.own 2 9 0 ((s.conts.take k).filter fun c=>c.app !=id).length),(7,.aD),(8,.own 3 1 0 ((s.conts.take k).filter fun c=>c.app==id).length),(9,.int .i64 (k:Int))],[.box (stC s),.box [.aD,.aD,.aD,.aD,.aD,.aD,.aD,.int .i64 0,.int .i64 0,.int .i64 0],.arr 9 (((s.conts.take k).filter fun c=>c.app !=id).map bY),.arr 1 ((((s.conts.take k).filter fun c=>c.app==id).map bD.id).map I64)]⟩) (fun k=>k<=s.conts.length) (fun k=>s.conts.length-k) 0 ?_ (by omega) ?_
 · (refine Sub.of0 [some 0,some 1,none,none] rfl ?_ rfl ?_<;>repeat' first|trivial|rfl|exact .inl rfl|exact .inr ⟨rfl,_,_,rfl⟩|(simp;done)|(simp;omega)|refine And.intro ?_ ?_)
 rintro k hk
 unfold aJa
 have hfl:=dA (p:=fun c:bD=>c.app !=id) (l:=s.conts) (k:=k)
 have hfl2:=dA (p:=fun c:bD=>c.app==id) (l:=s.conts) (k:=k)
 by_cases hki:k<s.conts.length
 · have hg:s.conts.getD k default=s.conts[k]:=by simp [hki]
   have e:=cH (p:=fun c:bD=>c.app !=id) hki
   have e2:=cH (p:=fun c:bD=>c.app==id) hki
   generalize hout:(s.conts.take k).filter (fun c:bD=>c.app !=id)=out at e hfl ⊢
   generalize hout2:(s.conts.take k).filter (fun c:bD=>c.app==id)=out2 at e2 hfl2 ⊢
   by_cases hp:s.conts[k].app=id
   · rw [if_neg (by simp [hp]),List.append_nil] at e
     rw [if_pos (by simp [hp])] at e2
     simp -implicitDefEqProofs(disch:=first|decide|omega)only[↓aA,aC,aB,simprocAttr,bB,aY,hg,hp]
     repeat refine And.intro (by omega) ?_
     refine ⟨k+1,?_,by omega,by omega⟩
     simp only [e,e2,List.map_append,List.map_cons,List.map_nil,List.length_append,List.length_cons,List.length_nil]
     (refine Sub.of0 [some 0,some 1,some 2,some 5] rfl ?_ rfl ?_<;>repeat' first|trivial|rfl|exact .inl rfl|exact .inr ⟨rfl,_,_,rfl⟩|(simp;done)|(simp;omega)|refine And.intro ?_ ?_)
   · rw [if_pos (by simp [hp])] at e
     rw [if_neg (by simp [hp]),List.append_nil] at e2
     simp -implicitDefEqProofs(disch:=first|decide|omega)only[↓aA,aC,aB,simprocAttr,bB,aY,hg,hp]
     repeat refine And.intro (by omega) ?_
     refine ⟨k+1,?_,by omega,by omega⟩
     simp only [e,e2,List.map_append,List.map_cons,List.map_nil,List.length_append,List.length_cons,List.length_nil]
     (refine Sub.of0 [some 0,some 1,some 5,some 3] rfl ?_ rfl ?_<;>repeat' first|trivial|rfl|exact .inl rfl|exact .inr ⟨rfl,_,_,rfl⟩|(simp;done)|(simp;omega)|refine And.intro ?_ ?_)
 · have:k=s.conts.length:=by omega
   subst this
   generalize hout:(s.conts.take s.conts.length).filter (fun c:bD=>c.app !=id)=out at hfl ⊢
   generalize hout2:(s.conts.take s.conts.length).filter (fun c:bD=>c.app==id)=out2 at hfl2 ⊢
   rw [List.take_length] at hout hout2
   simp -implicitDefEqProofs(disch:=first|decide|omega)only[↓aA,aC,aB,simprocAttr,bB]
   unfold aJd
   simp -implicitDefEqProofs(disch:=first|decide|omega)only[↓aA,aC,aB,simprocAttr]
   refine aF (σ:=Nat) (fun k=>⟨[(1,.int .i64 id),(2,.ref 0 0 0),(4,.ref 1 0 0),(6,.own 2 9 0 out.length),(7,.own 4 3 0 ((s.slots.take k).filter fun c=>c.app !=id).length),(8,.own 3 1 0 out2.length),(10,.int .i64 (k:Int))],[.box (stC s),.box [.aD,.aD,.aD,.aD,.aD,.aD,.aD,.int .i64 0,.int .i64 0,.int .i64 0],.arr 9 (out.map bY),.arr 1 ((out2.map bD.id).map I64),.arr 3 (((s.slots.take k).filter fun c=>c.app !=id).map gW)]⟩) (fun k=>k<=s.slots.length) (fun k=>s.slots.length-k) 0 ?_ (by omega) ?_
   · (refine Sub.of0 [some 0,some 1,some 2,some 3,none] rfl ?_ rfl ?_<;>repeat' first|trivial|rfl|exact .inl rfl|exact .inr ⟨rfl,_,_,rfl⟩|(simp;done)|(simp;omega)|refine And.intro ?_ ?_)
   rintro k hk
   unfold aJb
   have hfl:=dA (p:=fun c:dY=>c.app !=id) (l:=s.slots) (k:=k)
   by_cases hki:k<s.slots.length
   · have hg:s.slots.getD k default=s.slots[k]:=by simp [hki]
     have e:=cH (p:=fun c:dY=>c.app !=id) hki
     generalize hout3:(s.slots.take k).filter (fun c:dY=>c.app !=id)=out3 at e hfl ⊢
     by_cases hp:s.slots[k].app=id
     · rw [if_neg (by simp [hp]),List.append_nil] at e
       simp -implicitDefEqProofs(disch:=first|decide|omega)only[↓aA,aC,aB,simprocAttr,bB,cU,hg,hp]
       repeat refine And.intro (by omega) ?_
       refine ⟨k+1,?_,by omega,by omega⟩
       simp only [e]
       exact .inl rfl
     · rw [if_pos (by simp [hp])] at e
       simp -implicitDefEqProofs(disch:=first|decide|omega)only[↓aA,aC,aB,simprocAttr,bB,cU,hg,hp]
       repeat refine And.intro (by omega) ?_
       refine ⟨k+1,?_,by omega,by omega⟩
       simp only [e,List.map_append,List.map_cons,List.map_nil,List.length_append,List.length_cons,List.length_nil]
       (refine Sub.of0 [some 0,some 1,some 2,some 3,some 6] rfl ?_ rfl ?_<;>repeat' first|trivial|rfl|exact .inl rfl|exact .inr ⟨rfl,_,_,rfl⟩|(simp;done)|(simp;omega)|refine And.intro ?_ ?_)
   · have:k=s.slots.length:=by omega
     subst this
     simp -implicitDefEqProofs(disch:=first|decide|omega)only[↓aA,aC,aB,simprocAttr,bB,List.take_length]
     unfold uT aBv
     rw [hout,hout2]
theorem y4 (a:App):aT Tryz.prog 82 [APP a] (.sl false 8 ((mM a).map ASK)):=by
 unfold aT
 refine aK aYQ (by simp) ?_
 unfold aXo mM
 simp -implicitDefEqProofs(disch:=first|decide|omega)only[↓aA,aC,aB,simprocAttr,bB,a9]
 repeat' first|rfl|apply And.intro
theorem zI (a:Int):aT Tryz.prog 80 [.int .i64 a] (.bool (decide (1<=a/\a<=2^30))):=by
 unfold aT
 refine aK aYR (by simp) ?_
 unfold aXq
 by_cases h:1<=a
 · simp -implicitDefEqProofs(disch:=first|decide|omega)only[↓aA,aC,aB,simprocAttr,h]
 · simp -implicitDefEqProofs(disch:=first|decide|omega)only[↓aA,aC,aB,simprocAttr,h]
theorem r9 (l:List Int) (hl:l.length<2^41) (n:Int):aT Tryz.prog 94 [.sl false 1 (l.map I64),.int .i64 n] (.tup [.sl false 1 ((l.filter fun g=>g !=n).map I64),.bool (l.contains n)]):=by
 unfold aT
 refine aK aYP (by simp) ?_
 unfold aXk
 simp -implicitDefEqProofs(disch:=first|decide|omega)only[↓aA,aC,aB,simprocAttr]
 unfold aI5
 simp -implicitDefEqProofs(disch:=first|decide|omega)only[↓aA,aC,aB,simprocAttr]
 refine aF (σ:=Nat) (fun k=>⟨[(0,.sl false 1 (l.map I64)),(1,.int .i64 n),(6,.own 0 1 0 ((l.take k).filter fun g=>g !=n).length),(7,.int .i64 (k:Int))],[.arr 1 (((l.take k).filter fun g=>g !=n).map I64)]⟩) (fun k=>k<=l.length) (fun k=>l.length-k) 0 ?_ (by omega) ?_
 · (refine Sub.of0 [none] rfl ?_ rfl ?_<;>repeat' first|trivial|rfl|exact .inl rfl|exact .inr ⟨rfl,_,_,rfl⟩|(simp;done)|(simp;omega)|refine And.intro ?_ ?_)
 rintro k hk
 unfold aI4
 have hfl:=dA (p:=fun g:Int=>g !=n) (l:=l) (k:=k)
 by_cases hki:k<l.length
 · have hg:l.getD k default=l[k]:=by simp [hki]
   have e:=cH (p:=fun g:Int=>g !=n) hki
   generalize hout:(l.take k).filter (fun g:Int=>g !=n)=out at e hfl ⊢
   by_cases hp:l[k]=n
   · rw [if_neg (by simp [hp]),List.append_nil] at e
     simp -implicitDefEqProofs(disch:=first|decide|omega)only[↓aA,aC,aB,simprocAttr,bB,hg,hp,I64]
     repeat refine And.intro (by omega) ?_
     refine ⟨k+1,?_,by omega,by omega⟩
     simp only [e]
     exact .inl rfl
   · rw [if_pos (by simp [hp])] at e
     simp -implicitDefEqProofs(disch:=first|decide|omega)only[↓aA,aC,aB,simprocAttr,bB,hg,hp,I64]
     repeat refine And.intro (by omega) ?_
     refine ⟨k+1,?_,by omega,by omega⟩
     simp only [e,List.map_append,List.map_cons,List.map_nil,List.length_append,List.length_cons,List.length_nil]
     (refine Sub.of0 [some 2] rfl ?_ rfl ?_<;>repeat' first|trivial|rfl|exact .inl rfl|exact .inr ⟨rfl,_,_,rfl⟩|(simp;done)|(simp;omega)|refine And.intro ?_ ?_)
 · have:k=l.length:=by omega
   subst this
   simp -implicitDefEqProofs(disch:=first|decide|omega)only[↓aA,aC,aB,simprocAttr,bB,List.take_length]
   have e:decide (((l.filter fun g=>g !=n).length:Int)<(l.length:Int))=l.contains n:=by
    by_cases h:n∈l
    · have:(l.filter fun g=>g !=n).length<l.length:=by
       rcases Nat.lt_or_ge (l.filter fun g=>g !=n).length l.length with h1|h1
       · exact h1
       · have h2:=(List.length_filter_eq_length_iff (p:=fun g=>g !=n) (l:=l)).1 (Nat.le_antisymm (List.length_filter_le _ _) h1) n h
         simp at h2
      rw [decide_eq_true (by omega)]
      exact (List.contains_iff_mem.2 h).symm
    · have:(l.filter fun g=>g !=n)=l:=List.filter_eq_self.2 fun x hx=>by
       simp only [bne_iff_ne]
       rintro rfl
       exact h hx
      rw [this,decide_eq_false (by omega)]
      exact (by simpa using h:l.contains n=false).symm
   rw [e]
theorem aG7 {P:Program} {f:FuncId} {args args':List AV} {H:List AO} {K:AV->List AO->Prop} {y:AV} (h:aT P f args' y) (ha:∀ H,Vws false H args args') (hp:y.low=true) (hk:K y H):qcK P f args H K :=
 ⟨fun z=>z=y,fun _=>aW.aIa (aM:=false) h (ha _) (fun z e=>e ▸ ⟨hp,by simp⟩),fun z e=>e ▸ hk⟩
def iU (a:App):Bool:= !live a
theorem o8 (x:App):∀ (l:List App),cG (l++[x])=if l.any iU then cG l++[x] else if live x then l++[x] else l
 | []=>by
   cases h:live x<;>simp [cG,h]
 | a :: r=>by
   have ih:=o8 x r
   rw [List.cons_append]
   cases h:live a
   · simp [cG,h,iU]
   · simp only [cG,h,if_true,ih,List.any_cons,iU,Bool.not_true,Bool.false_or]
     split
     · rfl
     · split<;>rfl
theorem tH:∀ {l:List App},l.any iU=false->cG l=l
 | [],_=>rfl
 | a :: r,h=>by
   simp only [List.any_cons,Bool.or_eq_false_iff] at h
   have h2:live a=true:=by simpa [iU] using h.1
   rw [cG,if_pos h2,tH h.2]
theorem qW:∀ (l:List App),(cG l).length<=l.length:=fun l=>(lN l).length_le
theorem aFG (s:Sta) (hl:s.apps.length<2^38):aT Tryz.prog 81 [.agg (stC s)] (.agg (stC { s with apps:=cG s.apps })):=by
 unfold aT
 refine aO aVg (by simp) ?_
 unfold aXp
 simp -implicitDefEqProofs(disch:=first|decide|omega)only[↓aA,aC,aB,simprocAttr,stC]
 unfold aJf
 simp -implicitDefEqProofs(disch:=first|decide|omega)only[↓aA,aC,aB,simprocAttr]
 refine aF (σ:=Nat) (fun k=>⟨[(1,.ref 0 0 0),(2,.ref 1 0 0),(3,.own 2 14 0 (cG (s.apps.take k)).length),(4,.bool ((s.apps.take k).any iU)),(5,.int .i64 (k:Int))],[.box (stC s),.box [.aD,.aD,.aD,.aD,.aD,.aD,.aD,.int .i64 0,.int .i64 0,.int .i64 0],.arr 14 ((cG (s.apps.take k)).map APP)]⟩) (fun k=>k<=s.apps.length) (fun k=>s.apps.length-k) 0 ?_ (by omega) ?_
 · (refine Sub.of0 [some 0,some 1,none] rfl ?_ rfl ?_<;>repeat' first|trivial|rfl|exact .inl rfl|exact .inr ⟨rfl,_,_,rfl⟩|(simp;done)|(simp;omega)|refine And.intro ?_ ?_)
 rintro k hk
 unfold aJe
 have hfl:=qW (s.apps.take k)
 have hfl2:(s.apps.take k).length<=s.apps.length:=by simp;omega
 by_cases hki:k<s.apps.length
 · have hg:s.apps.getD k default=s.apps[k]:=by simp [hki]
   have e2:s.apps.take (k+1)=s.apps.take k++[s.apps[k]]:=List.take_succ_eq_append_getElem hki
   have e3:(s.apps.take (k+1)).any iU=((s.apps.take k).any iU||iU s.apps[k]):=by rw [e2,List.any_append,List.any_cons,List.any_nil,Bool.or_false]
   have e:cG (s.apps.take (k+1))=if (s.apps.take k).any iU then cG (s.apps.take k)++[s.apps[k]] else if live s.apps[k] then s.apps.take k++[s.apps[k]] else s.apps.take k:=by rw [e2];exact o8 s.apps[k] (s.apps.take k)
   have hno:=tH (l:=s.apps.take k)
   have h42:=fX s.apps[k]
   generalize hout:cG (s.apps.take k)=out at e hfl hno ⊢
   cases hd:(s.apps.take k).any iU
   · rw [hd] at e e3
     have hno:=hno hd
     cases hv:live s.apps[k]
     · rw [hv] at e h42
       simp only [Bool.false_eq_true,if_false] at e
       have e:cG (s.apps.take (k+1))=out:=by rw [e,hno]
       have e3:(s.apps.take (k+1)).any iU=true:=by rw [e3];simp [iU,hv]
       simp -implicitDefEqProofs(disch:=first|decide|omega)only[↓aA,aC,aB,simprocAttr,bB,a9,hg]
       repeat refine And.intro (by omega) ?_
       refine aE (aI.of (aM:=false) (h42) (.refl rfl) rfl (by simp)) ?_
       simp -implicitDefEqProofs(disch:=first|decide|omega)only[↓aA,aC,aB,simprocAttr]
       refine ⟨k+1,?_,by omega,by omega⟩
       simp only [e,e3]
       exact .inl rfl
     · rw [hv] at e h42
       simp only [Bool.false_eq_true,if_false,if_true] at e
       have e:cG (s.apps.take (k+1))=out++[s.apps[k]]:=by rw [e,hno]
       have e3:(s.apps.take (k+1)).any iU=false:=by rw [e3];simp [iU,hv]
       simp -implicitDefEqProofs(disch:=first|decide|omega)only[↓aA,aC,aB,simprocAttr,bB,a9,hg]
       repeat refine And.intro (by omega) ?_
       refine aE (aI.of (aM:=false) (h42) (.refl rfl) rfl (by simp)) ?_
       simp -implicitDefEqProofs(disch:=first|decide|omega)only[↓aA,aC,aB,simprocAttr,bB,a9,hg]
       repeat refine And.intro (by omega) ?_
       refine ⟨k+1,?_,by omega,by omega⟩
       simp only [e,e3,List.map_append,List.map_cons,List.map_nil,List.length_append,List.length_cons,List.length_nil]
       (refine Sub.of0 [some 0,some 1,some 4] rfl ?_ rfl ?_<;>repeat' first|trivial|rfl|exact .inl rfl|exact .inr ⟨rfl,_,_,rfl⟩|(simp;done)|(simp;omega)|refine And.intro ?_ ?_)
   · rw [hd] at e e3
     simp only [if_true] at e
     have e3:(s.apps.take (k+1)).any iU=true:=by rw [e3];rfl
     simp -implicitDefEqProofs(disch:=first|decide|omega)only[↓aA,aC,aB,simprocAttr,bB,a9,hg]
     repeat refine And.intro (by omega) ?_
     refine ⟨k+1,?_,by omega,by omega⟩
     simp only [e,e3,List.map_append,List.map_cons,List.map_nil,List.length_append,List.length_cons,List.length_nil]
     (refine Sub.of0 [some 0,some 1,some 4] rfl ?_ rfl ?_<;>repeat' first|trivial|rfl|exact .inl rfl|exact .inr ⟨rfl,_,_,rfl⟩|(simp;done)|(simp;omega)|refine And.intro ?_ ?_)
 · have:k=s.apps.length:=by omega
   subst this
   simp -implicitDefEqProofs(disch:=first|decide|omega)only[↓aA,aC,aB,simprocAttr,bB,List.take_length]
theorem aSz (s:Sta) (ha:s.apps.length<2^37) (hl:s.conts.length<2^38) (hs:s.slots.length<2^38) (id st:Int):aT Tryz.prog 51 [.agg (stC s),.int .i64 id,.int .i64 st] (.tup [.agg (stC (wN s id st)),.sl false 1 ((aAM s id).map I64)]):=by
 have h1:=gV s (by omega) id
 have h3:=fun n=>gB s (by omega) n
 have h4:=fun n=>aBt (iJ s n) hl hs id
 refine aT.wk3 (aO aVo (by simp) ?_)
 unfold aXC
 unfold stC at h1
 unfold dT at h1
 simp -implicitDefEqProofs(disch:=first|decide|omega)only[↓aA,aC,aB,simprocAttr,stC]
 refine aE (aI.of (aM:=false) (h1) (.refl rfl) rfl (by simp)) ?_
 cases hf:dP id s.apps with
 | none =>
   have e1:wN s id st=s:=by unfold wN;rw [hf]
   have e2:aAM s id=[]:=by unfold aAM;rw [hf]
   rw [Option.getD_none,Option.isSome_none,e1,e2]
   simp -implicitDefEqProofs(disch:=first|decide|omega)only[↓aA,aC,aB,simprocAttr,bB,a9]
   exact .inr ⟨_,_,rfl,rfl,.inl (.inl rfl),.inl (.inr ⟨rfl,_,_,rfl⟩),trivial⟩
 | some a =>
   rw [Option.getD_some,Option.isSome_some]
   have h2:=fX a
   cases hv:live a
   · have e1:wN s id st=s:=by unfold wN;rw [hf];simp [hv]
     have e2:aAM s id=[]:=by unfold aAM;rw [hf];simp [hv]
     rw [hv] at h2
     rw [e1,e2]
     simp -implicitDefEqProofs(disch:=first|decide|omega)only[↓aA,aC,aB,simprocAttr,bB,a9]
     refine aE (aI.of (aM:=false) (h2) (.refl rfl) rfl (by simp)) ?_
     simp -implicitDefEqProofs(disch:=first|decide|omega)only[↓aA,aC,aB,simprocAttr,bB]
     exact .inr ⟨_,_,rfl,rfl,.inl (.inl rfl),.inl (.inr ⟨rfl,_,_,rfl⟩),trivial⟩
   · have e1:wN s id st=uT (iJ s (gD a st)) id:=by unfold wN;rw [hf];simp [hv]
     have e2:aAM s id=aBv s id:=by unfold aAM;rw [hf];simp [hv]
     rw [hv] at h2
     rw [e1,e2]
     simp -implicitDefEqProofs(disch:=first|decide|omega)only[↓aA,aC,aB,simprocAttr,bB,a9]
     refine aE (aI.of (aM:=false) (h2) (.refl rfl) rfl (by simp)) ?_
     simp -implicitDefEqProofs(disch:=first|decide|omega)only[↓aA,aC,aB,simprocAttr,bB,a9,bI]
     refine aE (aI.of (aM:=false) (h3 (gD a st)) (.cons (Vw.refl rfl) (.cons (Vw.wk (.inl (.inr ⟨_,_,rfl,rfl,by simp [WkL,Wk1,bI,gD]⟩)) rfl) .nil)) rfl (by simp)) ?_
     simp -implicitDefEqProofs(disch:=first|decide|omega)only[↓aA,aC,aB,simprocAttr]
     refine aE (aI.of (aM:=false) (h4 (gD a st)) (.refl rfl) rfl (by simp)) ?_
     simp -implicitDefEqProofs(disch:=first|decide|omega)only[↓aA,aC,aB,simprocAttr,bB]
     exact .inl (.inl (.inl rfl))
theorem z5 (s:Sta) (hl:s.apps.length<=2^20) (hn:0<=s.now/\s.now<=1000000000) (hc:∀ n∈s.apps,0<=n.seen/\n.seen<=1000000000):aT Tryz.prog 47 [.agg (stC s)] (.sl false 1 (((s.apps.filter fun a=>a.state==2&&decide (15<=s.now-a.seen)).map App.id).map I64)):=by
 refine aT.wk3 (aK aYW (by simp) ?_)
 unfold aXD
 simp -implicitDefEqProofs(disch:=first|decide|omega)only[↓aA,aC,aB,simprocAttr,stC]
 unfold aJC
 simp -implicitDefEqProofs(disch:=first|decide|omega)only[↓aA,aC,aB,simprocAttr]
 generalize hq:(fun a:App=>a.state==2&&decide (15<=s.now-a.seen))=q
 refine aF (σ:=Nat) (fun k=>⟨[(1,.ref 0 0 0),(3,.own 1 1 0 ((s.apps.take k).filter q).length),(4,.int .i64 (k:Int))],[.box (stC s),.arr 1 ((((s.apps.take k).filter q).map App.id).map I64)]⟩) (fun k=>k<=s.apps.length) (fun k=>s.apps.length-k) 0 ?_ (by omega) ?_
 · (refine Sub.of0 [some 0,none] rfl ?_ rfl ?_<;>repeat' first|trivial|rfl|exact .inl rfl|exact .inr ⟨rfl,_,_,rfl⟩|(simp;done)|(simp;omega)|refine And.intro ?_ ?_)
 rintro k hk
 unfold aJB
 have hfl:=dA (p:=q) (l:=s.apps) (k:=k)
 by_cases hki:k<s.apps.length
 · have hg:s.apps.getD k default=s.apps[k]:=by simp [hki]
   have hx:=hc _ (List.getElem_mem hki)
   have e:=cH (p:=q) hki
   have hqk:q s.apps[k]=(s.apps[k].state==2&&decide (15<=s.now-s.apps[k].seen)):=by rw [<- hq]
   generalize hout:(s.apps.take k).filter q=out at e hfl ⊢
   by_cases hu:s.apps[k].state=2
   · by_cases h10:15<=s.now-s.apps[k].seen
     · rw [if_pos (by rw [hqk];simp [hu,h10])] at e
       simp -implicitDefEqProofs(disch:=first|decide|omega)only[↓aA,aC,aB,simprocAttr,bB,a9,hg,hu,h10]
       repeat refine And.intro (by omega) ?_
       refine ⟨k+1,?_,by omega,by omega⟩
       simp only [e,List.map_append,List.map_cons,List.map_nil,List.length_append,List.length_cons,List.length_nil]
       (refine Sub.of0 [some 0,some 3] rfl ?_ rfl ?_<;>repeat' first|trivial|rfl|exact .inl rfl|exact .inr ⟨rfl,_,_,rfl⟩|(simp;done)|(simp;omega)|refine And.intro ?_ ?_)
     · rw [if_neg (by rw [hqk];simp [hu];omega),List.append_nil] at e
       simp -implicitDefEqProofs(disch:=first|decide|omega)only[↓aA,aC,aB,simprocAttr,bB,a9,hg,hu,h10]
       repeat refine And.intro (by omega) ?_
       refine ⟨k+1,?_,by omega,by omega⟩
       simp only [e]
       exact .inl rfl
   · rw [if_neg (by rw [hqk];simp [hu]),List.append_nil] at e
     simp -implicitDefEqProofs(disch:=first|decide|omega)only[↓aA,aC,aB,simprocAttr,bB,a9,hg,hu]
     repeat refine And.intro (by omega) ?_
     refine ⟨k+1,?_,by omega,by omega⟩
     simp only [e]
     exact .inl rfl
 · have:k=s.apps.length:=by omega
   subst this
   simp -implicitDefEqProofs(disch:=first|decide|omega)only[↓aA,aC,aB,simprocAttr,bB,List.take_length]
   exact .inl (.inl (.inl rfl))
end Go.Proofs.YtakemdamegfcfaaGreat
