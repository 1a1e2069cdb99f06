/- A part of a proof: what functions of the program compute. No condition. -/
import Derived.Test.YtakemdamegfcfaaGreatT19
set_option linter.unusedSimpArgs false
set_option linter.unusedVariables false
set_option maxRecDepth 20000
namespace Go.Proofs.YtakemdamegfcfaaGreat
open Go Go.Ab
theorem yQ (a:Int):aT Tryz.prog 196 [.int .i64 a] (.bool (decide (1<=a/\a<=2^30))):=by
 unfold aT
 refine aK aWa (by simp) ?_
 unfold aPb
 by_cases h:1<=a
 · simp -implicitDefEqProofs(disch:=first|decide|omega)only[↓aA,aC,aB,simprocAttr,h]
 · simp -implicitDefEqProofs(disch:=first|decide|omega)only[↓aA,aC,aB,simprocAttr,h]
structure aYk (a:Ask) (L:Int):Prop where
 prio:0<=a.prio/\a.prio<=9
 label:0<=a.label/\a.label<L
 size:okV a.mem a.cores
 count:0<=a.count/\a.count<=50
 node: -1<=a.node/\a.node<=999
 rack: -1<=a.rack/\a.rack<=99
set_option maxHeartbeats 1000000 in
theorem aFv (a:Ask) (L:Int):aW Tryz.prog 178 [ASK a,.int .i64 L] [] fun y _=>∃ e:Int,y= .int .i64 e/\(e=0->aYk a L):=by
 have hm:=yQ a.mem
 have hc:=yQ a.cores
 refine aK aWg (by simp) ?_
 unfold aPn
 by_cases c1:a.prio<0
 · simp -implicitDefEqProofs(disch:=first|decide|omega)only[↓aA,aC,aB,simprocAttr,bB,bF,c1]
   exact ⟨1,rfl,fun h=>by omega⟩
 by_cases c2:a.prio>9
 · simp -implicitDefEqProofs(disch:=first|decide|omega)only[↓aA,aC,aB,simprocAttr,bB,bF,c1,c2]
   exact ⟨1,rfl,fun h=>by omega⟩
 by_cases c3:a.label<0
 · simp -implicitDefEqProofs(disch:=first|decide|omega)only[↓aA,aC,aB,simprocAttr,bB,bF,c1,c2,c3]
   exact ⟨1,rfl,fun h=>by omega⟩
 by_cases c4:a.label>=L
 · simp -implicitDefEqProofs(disch:=first|decide|omega)only[↓aA,aC,aB,simprocAttr,bB,bF,c1,c2,c3,c4]
   exact ⟨1,rfl,fun h=>by omega⟩
 simp -implicitDefEqProofs(disch:=first|decide|omega)only[↓aA,aC,aB,simprocAttr,bB,bF,c1,c2,c3,c4]
 by_cases c7:1<=a.mem/\a.mem<=2^30
 case neg =>
  rw [decide_eq_false c7] at hm
  refine aE (aI.of (aM:=false) (hm) (.refl rfl) rfl (by simp)) ?_
  simp -implicitDefEqProofs(disch:=first|decide|omega)only[↓aA,aC,aB,simprocAttr,bB,bF]
  exact ⟨1,rfl,fun h=>by omega⟩
 rw [decide_eq_true c7] at hm
 refine aE (aI.of (aM:=false) (hm) (.refl rfl) rfl (by simp)) ?_
 simp -implicitDefEqProofs(disch:=first|decide|omega)only[↓aA,aC,aB,simprocAttr,bB,bF]
 by_cases c8:1<=a.cores/\a.cores<=2^30
 case neg =>
  rw [decide_eq_false c8] at hc
  refine aE (aI.of (aM:=false) (hc) (.refl rfl) rfl (by simp)) ?_
  simp -implicitDefEqProofs(disch:=first|decide|omega)only[↓aA,aC,aB,simprocAttr,bB,bF]
  exact ⟨1,rfl,fun h=>by omega⟩
 rw [decide_eq_true c8] at hc
 refine aE (aI.of (aM:=false) (hc) (.refl rfl) rfl (by simp)) ?_
 by_cases d0:a.node< -1
 · simp -implicitDefEqProofs(disch:=first|decide|omega)only[↓aA,aC,aB,simprocAttr,bB,bF,d0]
   exact ⟨1,rfl,fun h=>by omega⟩
 by_cases d1:a.node>999
 · simp -implicitDefEqProofs(disch:=first|decide|omega)only[↓aA,aC,aB,simprocAttr,bB,bF,d0,d1]
   exact ⟨1,rfl,fun h=>by omega⟩
 by_cases d2:a.rack< -1
 · simp -implicitDefEqProofs(disch:=first|decide|omega)only[↓aA,aC,aB,simprocAttr,bB,bF,d0,d1,d2]
   exact ⟨1,rfl,fun h=>by omega⟩
 by_cases d3:a.rack>99
 · simp -implicitDefEqProofs(disch:=first|decide|omega)only[↓aA,aC,aB,simprocAttr,bB,bF,d0,d1,d2,d3]
   exact ⟨1,rfl,fun h=>by omega⟩
 by_cases d5:0<=a.node
 · by_cases d6:a.rack<0
   · simp -implicitDefEqProofs(disch:=first|decide|omega)only[↓aA,aC,aB,simprocAttr,bB,bF,d0,d1,d2,d3,d5,d6]
     exact ⟨1,rfl,fun h=>by omega⟩
   · by_cases d7:a.count<0
     · simp -implicitDefEqProofs(disch:=first|decide|omega)only[↓aA,aC,aB,simprocAttr,bB,bF,d0,d1,d2,d3,d5,d6,d7]
       exact ⟨4,rfl,fun h=>by omega⟩
     · by_cases d8:a.count>50
       · simp -implicitDefEqProofs(disch:=first|decide|omega)only[↓aA,aC,aB,simprocAttr,bB,bF,d0,d1,d2,d3,d5,d6,d7,d8]
         exact ⟨4,rfl,fun h=>by omega⟩
       · simp -implicitDefEqProofs(disch:=first|decide|omega)only[↓aA,aC,aB,simprocAttr,bB,bF,d0,d1,d2,d3,d5,d6,d7,d8]
         exact ⟨0,rfl,fun h=>⟨by omega,by omega,⟨by omega,by omega,by omega,by omega⟩,by omega,by omega,by omega⟩⟩
 · by_cases d7:a.count<0
   · simp -implicitDefEqProofs(disch:=first|decide|omega)only[↓aA,aC,aB,simprocAttr,bB,bF,d0,d1,d2,d3,d5,d7]
     exact ⟨4,rfl,fun h=>by omega⟩
   · by_cases d8:a.count>50
     · simp -implicitDefEqProofs(disch:=first|decide|omega)only[↓aA,aC,aB,simprocAttr,bB,bF,d0,d1,d2,d3,d5,d7,d8]
       exact ⟨4,rfl,fun h=>by omega⟩
     · simp -implicitDefEqProofs(disch:=first|decide|omega)only[↓aA,aC,aB,simprocAttr,bB,bF,d0,d1,d2,d3,d5,d7,d8]
       exact ⟨0,rfl,fun h=>⟨by omega,by omega,⟨by omega,by omega,by omega,by omega⟩,by omega,by omega,by omega⟩⟩
def z6 (l:List Ask) (a:Ask):List Ask×Int:=if 8<(oE l a).length then ([],4) else (oE l a,0)
theorem xE (a:Ask):∀ (d:Bool) (l:List Ask),(pN a d l).length<=2*l.length+1
 | d,[]=>by cases d<;>simp [pN]
 | d,y :: r=>by
   have:=xE a (d||decide (y.prio>a.prio)) r
   unfold pN
   rw [List.length_append,List.length_append,List.length_cons]
   have h1:(if !d&&decide (y.prio>a.prio) then [a] else []).length<=1:=by split<;>simp
   have h2:(if y.prio=a.prio then [] else [y]).length<=1:=by split<;>simp
   omega
set_option maxHeartbeats 1000000 in
theorem aMI (l:List Ask) (hl:l.length<2^36) (a:Ask):aT Tryz.prog 179 [.sl false 8 (l.map ASK),ASK a] (.tup [.sl false 8 ((z6 l a).1.map ASK),.int .i64 (z6 l a).2]):=by
 refine aT.wk3 (aK aWf (by simp) ?_)
 unfold aPm
 have hL:=xE { a with missed:=0 } (a.count==0) l
 generalize hb:({ a with missed:=0 }:Ask)=b at hL
 have hbp:b.prio=a.prio:=by rw [<- hb]
 have hsA:oE l a=pN b (a.count==0) l:=by unfold oE;rw [hb]
 have hd0:∀ e:Bool,decide (a.count=0)=(a.count==0):=fun _=>rfl
 simp -implicitDefEqProofs(disch:=first|decide|omega)only[↓aA,aC,aB,simprocAttr,bB,bF]
 rw [hb]
 unfold aDw
 simp -implicitDefEqProofs(disch:=first|decide|omega)only[↓aA,aC,aB,simprocAttr]
 refine aF (σ:=Nat×List Ask×Bool) (fun q=>⟨[(0,.sl false 8 (l.map ASK)),(3,.ref 0 0 0),(6,.own 1 8 0 q.2.1.length),(7,.bool q.2.2),(8,.int .i64 (q.1:Int))],[.box (fC b),.arr 8 (q.2.1.map ASK)]⟩) (fun q=>q.1<=l.length/\pN b (a.count==0) l=q.2.1++pN b q.2.2 (l.drop q.1)) (fun q=>l.length-q.1) (0,[],a.count==0) ?_ ⟨by simp,by simp⟩ ?_
 · (refine Sub.of0 [some 0,none] rfl ?_ rfl ?_<;>repeat' first|trivial|rfl|exact .inl rfl|exact .inr ⟨rfl,_,_,rfl⟩|(simp;done)|(simp;omega)|refine And.intro ?_ ?_)
 rintro ⟨k,out,d⟩ ⟨hk,hi⟩
 simp only at hk hi
 unfold aDv
 have hol:out.length<=2*l.length+1:=by have:=congrArg List.length hi;rw [List.length_append] at this;omega
 by_cases hki:k<l.length
 · have hg:l.getD k default=l[k]:=by simp [hki]
   rw [List.drop_eq_getElem_cons hki,pN] at hi
   cases hd:d
   · subst hd
     by_cases h1:l[k].prio>b.prio
     · have h2:¬ l[k].prio=b.prio:=by omega
       rw [if_neg h2,decide_eq_true h1] at hi
       simp -implicitDefEqProofs(disch:=first|decide|omega)only[↓aA,aC,aB,simprocAttr,bB,bF,hg,h1,h2]
       repeat refine And.intro (by omega) ?_
       refine ⟨(k+1,out++[b,l[k]],true),?_,⟨by simp only;omega,by simp only;rw [hi];simp⟩,by simp only;omega⟩
       simp only [List.map_append,List.map_cons,List.map_nil,List.length_append,List.length_cons,List.length_nil]
       have ek:List.take (out.length+1) (List.map ASK out++[ASK b])=List.map ASK out++[ASK b]:=List.take_of_length_le (by simp)
       rw [ek,List.append_assoc,List.singleton_append]
       (refine Sub.of0 [some 0,some 5] rfl ?_ rfl ?_<;>repeat' first|trivial|rfl|exact .inl rfl|exact .inr ⟨rfl,_,_,rfl⟩|(simp;done)|(simp;omega)|refine And.intro ?_ ?_)
     · rw [decide_eq_false h1] at hi
       by_cases h2:l[k].prio=b.prio
       · rw [if_pos h2] at hi
         simp -implicitDefEqProofs(disch:=first|decide|omega)only[↓aA,aC,aB,simprocAttr,bB,bF,hg,h1]
         repeat refine And.intro (by omega) ?_
         refine ⟨(k+1,out,false),?_,⟨by simp only;omega,by simp only;rw [hi];simp⟩,by simp only;omega⟩
         exact .inl rfl
       · rw [if_neg h2] at hi
         simp -implicitDefEqProofs(disch:=first|decide|omega)only[↓aA,aC,aB,simprocAttr,bB,bF,hg,h1,h2]
         repeat refine And.intro (by omega) ?_
         refine ⟨(k+1,out++[l[k]],false),?_,⟨by simp only;omega,by simp only;rw [hi];simp⟩,by simp only;omega⟩
         simp only [List.map_append,List.map_cons,List.map_nil,List.length_append,List.length_cons,List.length_nil]
         (refine Sub.of0 [some 0,some 3] rfl ?_ rfl ?_<;>repeat' first|trivial|rfl|exact .inl rfl|exact .inr ⟨rfl,_,_,rfl⟩|(simp;done)|(simp;omega)|refine And.intro ?_ ?_)
   · subst hd
     by_cases h2:l[k].prio=b.prio
     · rw [if_pos h2] at hi
       simp -implicitDefEqProofs(disch:=first|decide|omega)only[↓aA,aC,aB,simprocAttr,bB,bF,hg]
       repeat refine And.intro (by omega) ?_
       refine ⟨(k+1,out,true),?_,⟨by simp only;omega,by simp only;rw [hi];simp⟩,by simp only;omega⟩
       exact .inl rfl
     · rw [if_neg h2] at hi
       simp -implicitDefEqProofs(disch:=first|decide|omega)only[↓aA,aC,aB,simprocAttr,bB,bF,hg,h2]
       repeat refine And.intro (by omega) ?_
       refine ⟨(k+1,out++[l[k]],true),?_,⟨by simp only;omega,by simp only;rw [hi];simp⟩,by simp only;omega⟩
       simp only [List.map_append,List.map_cons,List.map_nil,List.length_append,List.length_cons,List.length_nil]
       (refine Sub.of0 [some 0,some 3] rfl ?_ rfl ?_<;>repeat' first|trivial|rfl|exact .inl rfl|exact .inr ⟨rfl,_,_,rfl⟩|(simp;done)|(simp;omega)|refine And.intro ?_ ?_)
 · have:k=l.length:=by omega
   subst this
   rw [List.drop_length,<- hsA] at hi
   cases hd:d
   · subst hd
     have hi:oE l a=out++[b]:=hi
     by_cases h8:8<(oE l a).length
     · have er:z6 l a=([],4):=if_pos h8
       rw [er]
       rw [hi,List.length_append,List.length_singleton] at h8
       simp -implicitDefEqProofs(disch:=first|decide|omega)only[↓aA,aC,aB,simprocAttr,bB,bF,h8]
       repeat refine And.intro (by omega) ?_
       exact .inr ⟨_,_,rfl,rfl,.inl (.inr ⟨rfl,_,_,rfl⟩),.inl (.inl rfl),trivial⟩
     · have er:z6 l a=(oE l a,0):=if_neg h8
       rw [er]
       rw [hi,List.length_append,List.length_singleton] at h8
       simp -implicitDefEqProofs(disch:=first|decide|omega)only[↓aA,aC,aB,simprocAttr,bB,bF,h8]
       repeat refine And.intro (by omega) ?_
       have ek:List.take (out.length+1) (List.map ASK out++[ASK b])=(oE l a).map ASK:=by
        rw [hi,List.take_of_length_le (by simp),List.map_append]
        rfl
       rw [ek]
       exact .inl (.inl (.inl rfl))
   · subst hd
     have hi:oE l a=out:=by rw [hi];simp [pN]
     by_cases h8:8<(oE l a).length
     · have er:z6 l a=([],4):=if_pos h8
       rw [er]
       rw [hi] at h8
       simp -implicitDefEqProofs(disch:=first|decide|omega)only[↓aA,aC,aB,simprocAttr,bB,bF,h8]
       exact .inr ⟨_,_,rfl,rfl,.inl (.inr ⟨rfl,_,_,rfl⟩),.inl (.inl rfl),trivial⟩
     · have er:z6 l a=(oE l a,0):=if_neg h8
       rw [er]
       rw [hi] at h8 ⊢
       simp -implicitDefEqProofs(disch:=first|decide|omega)only[↓aA,aC,aB,simprocAttr,bB,bF,h8]
       exact .inl (.inl (.inl rfl))
def w5:dY:=⟨0,0,0⟩
def aGJ (node:Int) (l:List dY):Option dY:=l.find? fun x=>x.node==node
def aAz (app prio:Int) (l:List dY):Bool:=l.any fun x=>x.app==app&&x.prio==prio
theorem pZ (s:Sta) (hl:s.slots.length<2^38) (id:Int):aT Tryz.prog 153 [.agg (stC s),.int .i64 id] (.agg (stC (bV s id))):=by
 unfold aT
 refine aO aR1 (by simp) ?_
 unfold aPA
 simp -implicitDefEqProofs(disch:=first|decide|omega)only[↓aA,aC,aB,simprocAttr,stC]
 unfold aDU
 simp -implicitDefEqProofs(disch:=first|decide|omega)only[↓aA,aC,aB,simprocAttr]
 refine aF (σ:=Nat) (fun k=>⟨[(1,.int .i64 id),(2,.ref 0 0 0),(4,.ref 1 0 0),(5,.own 2 3 0 ((s.slots.take k).filter fun c=>c.node !=id).length),(6,.int .i64 (k:Int))],[.box (stC s),.box [.aD,.aD,.aD,.aD,.aD,.aD,.aD,.int .i64 0,.int .i64 0,.int .i64 0],.arr 3 (((s.slots.take k).filter fun c=>c.node !=id).map gW)]⟩) (fun k=>k<=s.slots.length) (fun k=>s.slots.length-k) 0 ?_ (by omega) ?_
 · (refine Sub.of0 [some 0,some 1,none] rfl ?_ rfl ?_<;>repeat' first|trivial|rfl|exact .inl rfl|exact .inr ⟨rfl,_,_,rfl⟩|(simp;done)|(simp;omega)|refine And.intro ?_ ?_)
 rintro k hk
 unfold aDT
 have hfl:=dA (p:=fun c:dY=>c.node !=id) (l:=s.slots) (k:=k)
 by_cases hki:k<s.slots.length
 · have hg:s.slots.getD k default=s.slots[k]:=by simp [hki]
   have e:=cH (p:=fun c:dY=>c.node !=id) hki
   generalize hout:(s.slots.take k).filter (fun c:dY=>c.node !=id)=out at e hfl ⊢
   by_cases hp:s.slots[k].node=id
   · rw [if_neg (by simp [hp]),List.append_nil] at e
     simp -implicitDefEqProofs(disch:=first|decide|omega)only[↓aA,aC,aB,simprocAttr,bB,cU,hg,hp]
     repeat refine And.intro (by omega) ?_
     refine ⟨k+1,?_,by omega,by omega⟩
     simp only [e]
     exact .inl rfl
   · rw [if_pos (by simp [hp])] at e
     simp -implicitDefEqProofs(disch:=first|decide|omega)only[↓aA,aC,aB,simprocAttr,bB,cU,hg,hp]
     repeat refine And.intro (by omega) ?_
     refine ⟨k+1,?_,by omega,by omega⟩
     simp only [e,List.map_append,List.map_cons,List.map_nil,List.length_append,List.length_cons,List.length_nil]
     (refine Sub.of0 [some 0,some 1,some 4] rfl ?_ rfl ?_<;>repeat' first|trivial|rfl|exact .inl rfl|exact .inr ⟨rfl,_,_,rfl⟩|(simp;done)|(simp;omega)|refine And.intro ?_ ?_)
 · have:k=s.slots.length:=by omega
   subst this
   simp -implicitDefEqProofs(disch:=first|decide|omega)only[↓aA,aC,aB,simprocAttr,bB,List.take_length]
   rfl
theorem aKa (s:Sta) (hl:s.slots.length<2^62) (id:Int):aT Tryz.prog 193 [.agg (stC s),.int .i64 id] (dT gW w5 (aGJ id s.slots)):=by
 unfold aT
 refine aO aRT (by simp) ?_
 unfold aPe dT aGJ
 simp -implicitDefEqProofs(disch:=first|decide|omega)only[↓aA,aC,aB,simprocAttr,stC]
 unfold aDc
 simp -implicitDefEqProofs(disch:=first|decide|omega)only[↓aA,aC,aB,simprocAttr]
 refine aF (σ:=Nat) (fun k=>⟨[(1,.int .i64 id),(2,.ref 0 0 0),(4,.ref 1 0 0),(6,.int .i64 (k:Int))],[.box (stC s),.box (gF w5)]⟩) (fun k=>k<=s.slots.length/\s.slots.find? (fun a=>a.node==id)=(s.slots.drop k).find? (fun a=>a.node==id)) (fun k=>s.slots.length-k) 0 (.inl rfl) ⟨by omega,by simp⟩ ?_
 rintro k ⟨hk,hf⟩
 unfold aDb
 by_cases hki:k<s.slots.length
 · have hg:s.slots.getD k default=s.slots[k]:=by simp [hki]
   rw [List.drop_eq_getElem_cons hki,List.find?_cons] at hf
   by_cases hp:s.slots[k].node=id
   · rw [beq_iff_eq.2 hp] at hf
     simp -implicitDefEqProofs(disch:=first|decide|omega)only[↓aA,aC,aB,simprocAttr,bB,cU,hg,hf,hp]
     exact ⟨by omega,by omega,by omega,by omega,rfl⟩
   · rw [beq_eq_false_iff_ne.2 hp] at hf
     simp -implicitDefEqProofs(disch:=first|decide|omega)only[↓aA,aC,aB,simprocAttr,bB,cU,hg,hp]
     exact ⟨by omega,by omega,k+1,.inl rfl,⟨by omega,hf⟩,by omega⟩
 · have:k=s.slots.length:=by omega
   subst this
   rw [List.drop_length] at hf
   simp -implicitDefEqProofs(disch:=first|decide|omega)only[↓aA,aC,aB,simprocAttr,bB,cU,hf]
   repeat first|exact rfl|refine And.intro (by rfl) ?_
theorem aIg (s:Sta) (hl:s.slots.length<2^62) (app prio:Int):aT Tryz.prog 236 [.agg (stC s),.int .i64 app,.int .i64 prio] (.bool (aAz app prio s.slots)):=by
 unfold aT
 refine aK aVQ (by simp) ?_
 unfold aOE aAz
 simp -implicitDefEqProofs(disch:=first|decide|omega)only[↓aA,aC,aB,simprocAttr,stC]
 unfold aCm
 simp -implicitDefEqProofs(disch:=first|decide|omega)only[↓aA,aC,aB,simprocAttr]
 refine aF (σ:=Nat) (fun k=>⟨[(1,.int .i64 app),(2,.int .i64 prio),(3,.ref 0 0 0),(7,.int .i64 (k:Int))],[.box (stC s)]⟩) (fun k=>k<=s.slots.length/\s.slots.any (fun x=>x.app==app&&x.prio==prio)=(s.slots.drop k).any (fun x=>x.app==app&&x.prio==prio)) (fun k=>s.slots.length-k) 0 (.inl rfl) ⟨by omega,by simp⟩ ?_
 rintro k ⟨hk,hf⟩
 unfold aCl
 by_cases hki:k<s.slots.length
 · have hg:s.slots.getD k default=s.slots[k]:=by simp [hki]
   rw [List.drop_eq_getElem_cons hki,List.any_cons] at hf
   by_cases hp:s.slots[k].app=app
   · by_cases hr:s.slots[k].prio=prio
     · rw [beq_iff_eq.2 hp,beq_iff_eq.2 hr] at hf
       have hf:s.slots.any (fun x=>x.app==app&&x.prio==prio)=true:=by rw [hf];rfl
       simp -implicitDefEqProofs(disch:=first|decide|omega)only[↓aA,aC,aB,simprocAttr,bB,cU,hg,hf]
       repeat refine And.intro (by omega) ?_
       all_goals first|rfl|omega
     · rw [beq_eq_false_iff_ne.2 hr,Bool.and_false,Bool.false_or] at hf
       simp -implicitDefEqProofs(disch:=first|decide|omega)only[↓aA,aC,aB,simprocAttr,bB,cU,hg,hr]
       repeat refine And.intro (by omega) ?_
       exact ⟨k+1,.inl rfl,⟨by omega,hf⟩,by omega⟩
   · rw [beq_eq_false_iff_ne.2 hp,Bool.false_and,Bool.false_or] at hf
     simp -implicitDefEqProofs(disch:=first|decide|omega)only[↓aA,aC,aB,simprocAttr,bB,cU,hg,hp]
     repeat refine And.intro (by omega) ?_
     exact ⟨k+1,.inl rfl,⟨by omega,hf⟩,by omega⟩
 · have:k=s.slots.length:=by omega
   subst this
   rw [List.drop_length] at hf
   simp -implicitDefEqProofs(disch:=first|decide|omega)only[↓aA,aC,aB,simprocAttr,bB,cU,hf]
   rfl
theorem aMS (s:Sta) (hl:s.slots.length<2^38) (n:dY):aT Tryz.prog 237 [.agg (stC s),gW n] (.agg (stC (yW s n))):=by
 unfold aT
 refine aO aRD (by simp) ?_
 unfold aOD
 simp -implicitDefEqProofs(disch:=first|decide|omega)only[↓aA,aC,aB,simprocAttr,stC,xC]
 unfold aCk
 simp -implicitDefEqProofs(disch:=first|decide|omega)only[↓aA,aC,aB,simprocAttr]
 refine aF (σ:=Nat) (fun k=>⟨[(2,.ref 0 0 0),(3,.ref 1 0 0),(4,.ref 2 0 0),(5,.int .i64 (k:Int))],[.box (stC s),.box (gF n),.box [.aD,.aD,.aD,.aD,.aD,.aD,.aD,.int .i64 0,.int .i64 0,.int .i64 0]]⟩) (fun k=>k<=s.slots.length/\∀ j,(hj:j<k)->(h:j<s.slots.length)->s.slots[j].node<n.node) (fun k=>s.slots.length-k) 0 (.inl rfl) ⟨by omega,fun j hj=>by omega⟩ ?_
 rintro k ⟨hk,hf⟩
 unfold aCj
 by_cases hki:k<s.slots.length
 · have hg:s.slots.getD k default=s.slots[k]:=by simp [hki]
   by_cases hp:s.slots[k].node<n.node
   · simp -implicitDefEqProofs(disch:=first|decide|omega)only[↓aA,aC,aB,simprocAttr,bB,xC,hg,hp]
     exact ⟨by omega,by omega,k+1,.inl rfl,⟨by omega,fun j hj h=>by
      by_cases hjk:j=k
      · subst hjk;exact hp
      · exact hf j (by omega) h⟩,by omega⟩
   · have e:=j5 (key:=dY.node) (n:=n) hk (fun j hj=>hf j hj (by omega)) (fun _=>hp)
     simp -implicitDefEqProofs(disch:=first|decide|omega)only[↓aA,aC,aB,simprocAttr,bB,xC,hg,hp]
     unfold yW
     simp only [e]
     repeat' first|omega|apply And.intro
     simp [List.take_of_length_le,Nat.min_eq_left hk]
     exact List.take_of_length_le (by simp;omega)
 · have e:=j5 (key:=dY.node) (n:=n) hk (fun j hj=>hf j hj (by omega)) (fun h=>absurd h hki)
   have:k=s.slots.length:=by omega
   subst this
   simp -implicitDefEqProofs(disch:=first|decide|omega)only[↓aA,aC,aB,simprocAttr,bB,xC]
   unfold yW
   simp only [e]
   repeat' first|omega|apply And.intro
   simp [List.take_of_length_le,Nat.min_eq_left hk]
end Go.Proofs.YtakemdamegfcfaaGreat
