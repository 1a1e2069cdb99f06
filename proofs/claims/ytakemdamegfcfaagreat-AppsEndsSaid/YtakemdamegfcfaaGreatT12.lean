/- A part of a proof: what functions of the program compute. No condition. -/
import Derived.Test.YtakemdamegfcfaaGreatT11
import Derived.Test.YtakemdamegfcfaaGreatProg
import Derived.KernelRfl
import Derived.Test.YtakemdamegfcfaaGreatT6
import Derived.Test.YtakemdamegfcfaaGreatT10
import Derived.Test.YtakemdamegfcfaaGreatT9
set_option linter.unusedSimpArgs false
set_option linter.unusedVariables false
set_option maxHeartbeats 16000000
set_option maxRecDepth 100000
namespace Go.Proofs.YtakemdamegfcfaaGreat
open Go Go.Ab
theorem aBt (s:Sta) (hl:s.conts.length<2^38) (hs:s.slots.length<2^38) (id:Int):aT Tryz.prog 91 [.agg (stC s),.int .i64 id] (.tup [.agg (stC (uT s id)),.sl false 1 ((aBv s id).map I64)]):=by
 unfold aT
 refine aO aVf (by simp) ?_
 unfold aXn
 refine Yf ?_
 unfold aJc
 refine Ya ?_
 refine aF (σ:=Nat) (fun k=>⟨[(1,.int .i64 id),(2,.ref 0 0 0),(4,.ref 1 0 0),(6,.own 2 9 0 ((s.conts.take k).filter fun c=>c.app !=id).length),(7,.aD),(8,.own 3 1 0 ((s.conts.take k).filter fun c=>c.app==id).length),(9,.int .i64 (k:Int))],[.box (stC s),.box [.aD,.aD,.aD,.aD,.aD,.aD,.aD,.int .i64 0,.int .i64 0,.int .i64 0],.arr 9 (((s.conts.take k).filter fun c=>c.app !=id).map bY),.arr 1 ((((s.conts.take k).filter fun c=>c.app==id).map bD.id).map I64)]⟩) (fun k=>k<=s.conts.length) (fun k=>s.conts.length-k) 0 ?_ (by omega) ?_
 · exact Sub.ofS [some 0,some 1,none,none]
 rintro k hk
 unfold aJa
 have hfl:=dA (p:=fun c:bD=>c.app !=id) (l:=s.conts) (k:=k)
 have hfl2:=dA (p:=fun c:bD=>c.app==id) (l:=s.conts) (k:=k)
 by_cases hki:k<s.conts.length
 · have hg:s.conts.getD k default=s.conts[k]:=by simp [hki]
   have e:=cH (p:=fun c:bD=>c.app !=id) hki
   have e2:=cH (p:=fun c:bD=>c.app==id) hki
   generalize hout:(s.conts.take k).filter (fun c:bD=>c.app !=id)=out at e hfl ⊢
   generalize hout2:(s.conts.take k).filter (fun c:bD=>c.app==id)=out2 at e2 hfl2 ⊢
   by_cases hp:s.conts[k].app=id
   · rw [if_neg (by simp [hp]),List.append_nil] at e
     rw [if_pos (by simp [hp])] at e2
     simp -implicitDefEqProofs(disch:=first|decide|omega)only[↓aA,aC,aB,simprocAttr,bB,aY,hg,hp]
     repeat refine And.intro (by omega) ?_
     refine ⟨k+1,?_,by omega,by omega⟩
     simp only [e,e2,List.map_append,List.map_cons,List.map_nil,List.length_append,List.length_cons,List.length_nil]
     exact Sub.ofS [some 0,some 1,some 2,some 5]
   · rw [if_pos (by simp [hp])] at e
     rw [if_neg (by simp [hp]),List.append_nil] at e2
     simp -implicitDefEqProofs(disch:=first|decide|omega)only[↓aA,aC,aB,simprocAttr,bB,aY,hg,hp]
     repeat refine And.intro (by omega) ?_
     refine ⟨k+1,?_,by omega,by omega⟩
     simp only [e,e2,List.map_append,List.map_cons,List.map_nil,List.length_append,List.length_cons,List.length_nil]
     exact Sub.ofS [some 0,some 1,some 5,some 3]
 · have:k=s.conts.length:=by omega
   subst this
   generalize hout:(s.conts.take s.conts.length).filter (fun c:bD=>c.app !=id)=out at hfl ⊢
   generalize hout2:(s.conts.take s.conts.length).filter (fun c:bD=>c.app==id)=out2 at hfl2 ⊢
   rw [List.take_length] at hout hout2
   refine Yb ?_
   unfold aJd
   refine Ya ?_
   refine aF (σ:=Nat) (fun k=>⟨[(1,.int .i64 id),(2,.ref 0 0 0),(4,.ref 1 0 0),(6,.own 2 9 0 out.length),(7,.own 4 3 0 ((s.slots.take k).filter fun c=>c.app !=id).length),(8,.own 3 1 0 out2.length),(10,.int .i64 (k:Int))],[.box (stC s),.box [.aD,.aD,.aD,.aD,.aD,.aD,.aD,.int .i64 0,.int .i64 0,.int .i64 0],.arr 9 (out.map bY),.arr 1 ((out2.map bD.id).map I64),.arr 3 (((s.slots.take k).filter fun c=>c.app !=id).map gW)]⟩) (fun k=>k<=s.slots.length) (fun k=>s.slots.length-k) 0 ?_ (by omega) ?_
   · exact Sub.ofS [some 0,some 1,some 2,some 3,none]
   rintro k hk
   unfold aJb
   have hfl:=dA (p:=fun c:dY=>c.app !=id) (l:=s.slots) (k:=k)
   by_cases hki:k<s.slots.length
   · have hg:s.slots.getD k default=s.slots[k]:=by simp [hki]
     have e:=cH (p:=fun c:dY=>c.app !=id) hki
     generalize hout3:(s.slots.take k).filter (fun c:dY=>c.app !=id)=out3 at e hfl ⊢
     by_cases hp:s.slots[k].app=id
     · rw [if_neg (by simp [hp]),List.append_nil] at e
       simp -implicitDefEqProofs(disch:=first|decide|omega)only[↓aA,aC,aB,simprocAttr,bB,cU,hg,hp]
       repeat refine And.intro (by omega) ?_
       refine ⟨k+1,?_,by omega,by omega⟩
       simp only [e]
       exact .inl rfl
     · rw [if_pos (by simp [hp])] at e
       simp -implicitDefEqProofs(disch:=first|decide|omega)only[↓aA,aC,aB,simprocAttr,bB,cU,hg,hp]
       repeat refine And.intro (by omega) ?_
       refine ⟨k+1,?_,by omega,by omega⟩
       simp only [e,List.map_append,List.map_cons,List.map_nil,List.length_append,List.length_cons,List.length_nil]
       exact Sub.ofS [some 0,some 1,some 2,some 3,some 6]
   · have:k=s.slots.length:=by omega
     subst this
     refine Yj ?_
     unfold uT aBv
     rw [hout,hout2]
theorem y4 (a:App):aT Tryz.prog 82 [APP a] (.sl false 8 ((mM a).map ASK)):=by
 unfold aT
 refine aK aYQ (by simp) ?_
 unfold aXo mM
 simp -implicitDefEqProofs(disch:=first|decide|omega)only[↓aA,aC,aB,simprocAttr,bB,a9]
 repeat' first|rfl|apply And.intro
theorem zI (a:Int):aT Tryz.prog 80 [.int .i64 a] (.bool (decide (1<=a/\a<=2^30))):=by
 unfold aT
 refine aK aYR (by simp) ?_
 unfold aXq
 by_cases h:1<=a
 · simp -implicitDefEqProofs(disch:=first|decide|omega)only[↓aA,aC,aB,simprocAttr,h]
 · simp -implicitDefEqProofs(disch:=first|decide|omega)only[↓aA,aC,aB,simprocAttr,h]
theorem r9 (l:List Int) (hl:l.length<2^41) (n:Int):aT Tryz.prog 94 [.sl false 1 (l.map I64),.int .i64 n] (.tup [.sl false 1 ((l.filter fun g=>g !=n).map I64),.bool (l.contains n)]):=by
 unfold aT
 refine aK aYP (by simp) ?_
 unfold aXk
 refine Ya ?_
 unfold aI5
 refine Ya ?_
 refine aF (σ:=Nat) (fun k=>⟨[(0,.sl false 1 (l.map I64)),(1,.int .i64 n),(6,.own 0 1 0 ((l.take k).filter fun g=>g !=n).length),(7,.int .i64 (k:Int))],[.arr 1 (((l.take k).filter fun g=>g !=n).map I64)]⟩) (fun k=>k<=l.length) (fun k=>l.length-k) 0 ?_ (by omega) ?_
 · exact Sub.ofS [none]
 rintro k hk
 unfold aI4
 have hfl:=dA (p:=fun g:Int=>g !=n) (l:=l) (k:=k)
 by_cases hki:k<l.length
 · have hg:l.getD k default=l[k]:=by simp [hki]
   have e:=cH (p:=fun g:Int=>g !=n) hki
   generalize hout:(l.take k).filter (fun g:Int=>g !=n)=out at e hfl ⊢
   by_cases hp:l[k]=n
   · rw [if_neg (by simp [hp]),List.append_nil] at e
     simp -implicitDefEqProofs(disch:=first|decide|omega)only[↓aA,aC,aB,simprocAttr,bB,hg,hp,I64]
     repeat refine And.intro (by omega) ?_
     refine ⟨k+1,?_,by omega,by omega⟩
     simp only [e]
     exact .inl rfl
   · rw [if_pos (by simp [hp])] at e
     simp -implicitDefEqProofs(disch:=first|decide|omega)only[↓aA,aC,aB,simprocAttr,bB,hg,hp,I64]
     repeat refine And.intro (by omega) ?_
     refine ⟨k+1,?_,by omega,by omega⟩
     simp only [e,List.map_append,List.map_cons,List.map_nil,List.length_append,List.length_cons,List.length_nil]
     exact Sub.ofS [some 2]
 · have:k=l.length:=by omega
   subst this
   refine Yj ?_
   have e:decide (((l.filter fun g=>g !=n).length:Int)<(l.length:Int))=l.contains n:=by
    by_cases h:n∈l
    · have:(l.filter fun g=>g !=n).length<l.length:=by
       rcases Nat.lt_or_ge (l.filter fun g=>g !=n).length l.length with h1|h1
       · exact h1
       · have h2:=(List.length_filter_eq_length_iff (p:=fun g=>g !=n) (l:=l)).1 (Nat.le_antisymm (List.length_filter_le _ _) h1) n h
         simp at h2
      rw [decide_eq_true (by omega)]
      exact (List.contains_iff_mem.2 h).symm
    · have:(l.filter fun g=>g !=n)=l:=List.filter_eq_self.2 fun x hx=>by
       simp only [bne_iff_ne]
       rintro rfl
       exact h hx
      rw [this,decide_eq_false (by omega)]
      exact (by simpa using h:l.contains n=false).symm
   rw [e]
theorem aG7 {P:Program} {f:FuncId} {args args':List AV} {H:List AO} {K:AV->List AO->Prop} {y:AV} (h:aT P f args' y) (ha:∀ H,Vws false H args args') (hp:y.low=true) (hk:K y H):qcK P f args H K :=
 ⟨fun z=>z=y,fun _=>aW.aIa (aM:=false) h (ha _) (fun z e=>e ▸ ⟨hp,by simp⟩),fun z e=>e ▸ hk⟩
def iU (a:App):Bool:= !live a
theorem o8 (x:App):∀ (l:List App),cG (l++[x])=if l.any iU then cG l++[x] else if live x then l++[x] else l
 | []=>by
   cases h:live x<;>simp [cG,h]
 | a :: r=>by
   have ih:=o8 x r
   rw [List.cons_append]
   cases h:live a
   · simp [cG,h,iU]
   · simp only [cG,h,if_true,ih,List.any_cons,iU,Bool.not_true,Bool.false_or]
     split
     · rfl
     · split<;>rfl
theorem tH:∀ {l:List App},l.any iU=false->cG l=l
 | [],_=>rfl
 | a :: r,h=>by
   simp only [List.any_cons,Bool.or_eq_false_iff] at h
   have h2:live a=true:=by simpa [iU] using h.1
   rw [cG,if_pos h2,tH h.2]
theorem qW:∀ (l:List App),(cG l).length<=l.length:=fun l=>(lN l).length_le
theorem aFG (s:Sta) (hl:s.apps.length<2^38):aT Tryz.prog 81 [.agg (stC s)] (.agg (stC { s with apps:=cG s.apps })):=by
 unfold aT
 refine aO aVg (by simp) ?_
 unfold aXp
 refine Yf ?_
 unfold aJf
 refine Ya ?_
 refine aF (σ:=Nat) (fun k=>⟨[(1,.ref 0 0 0),(2,.ref 1 0 0),(3,.own 2 14 0 (cG (s.apps.take k)).length),(4,.bool ((s.apps.take k).any iU)),(5,.int .i64 (k:Int))],[.box (stC s),.box [.aD,.aD,.aD,.aD,.aD,.aD,.aD,.int .i64 0,.int .i64 0,.int .i64 0],.arr 14 ((cG (s.apps.take k)).map APP)]⟩) (fun k=>k<=s.apps.length) (fun k=>s.apps.length-k) 0 ?_ (by omega) ?_
 · exact Sub.ofS [some 0,some 1,none]
 rintro k hk
 unfold aJe
 have hfl:=qW (s.apps.take k)
 have hfl2:(s.apps.take k).length<=s.apps.length:=by simp;omega
 by_cases hki:k<s.apps.length
 · have hg:s.apps.getD k default=s.apps[k]:=by simp [hki]
   have e2:s.apps.take (k+1)=s.apps.take k++[s.apps[k]]:=List.take_succ_eq_append_getElem hki
   have e3:(s.apps.take (k+1)).any iU=((s.apps.take k).any iU||iU s.apps[k]):=by rw [e2,List.any_append,List.any_cons,List.any_nil,Bool.or_false]
   have e:cG (s.apps.take (k+1))=if (s.apps.take k).any iU then cG (s.apps.take k)++[s.apps[k]] else if live s.apps[k] then s.apps.take k++[s.apps[k]] else s.apps.take k:=by rw [e2];exact o8 s.apps[k] (s.apps.take k)
   have hno:=tH (l:=s.apps.take k)
   have h42:=fX s.apps[k]
   generalize hout:cG (s.apps.take k)=out at e hfl hno ⊢
   cases hd:(s.apps.take k).any iU
   · rw [hd] at e e3
     have hno:=hno hd
     cases hv:live s.apps[k]
     · rw [hv] at e h42
       simp only [Bool.false_eq_true,if_false] at e
       have e:cG (s.apps.take (k+1))=out:=by rw [e,hno]
       have e3:(s.apps.take (k+1)).any iU=true:=by rw [e3];simp [iU,hv]
       simp -implicitDefEqProofs(disch:=first|decide|omega)only[↓aA,aC,aB,simprocAttr,bB,a9,hg]
       repeat refine And.intro (by omega) ?_
       refine aE (aI.of (aM:=false) (h42) (.refl rfl) rfl (by simp)) ?_
       refine Ya ?_
       refine ⟨k+1,?_,by omega,by omega⟩
       simp only [e,e3]
       exact .inl rfl
     · rw [hv] at e h42
       simp only [Bool.false_eq_true,if_false,if_true] at e
       have e:cG (s.apps.take (k+1))=out++[s.apps[k]]:=by rw [e,hno]
       have e3:(s.apps.take (k+1)).any iU=false:=by rw [e3];simp [iU,hv]
       simp -implicitDefEqProofs(disch:=first|decide|omega)only[↓aA,aC,aB,simprocAttr,bB,a9,hg]
       repeat refine And.intro (by omega) ?_
       refine aE (aI.of (aM:=false) (h42) (.refl rfl) rfl (by simp)) ?_
       simp -implicitDefEqProofs(disch:=first|decide|omega)only[↓aA,aC,aB,simprocAttr,bB,a9,hg]
       repeat refine And.intro (by omega) ?_
       refine ⟨k+1,?_,by omega,by omega⟩
       simp only [e,e3,List.map_append,List.map_cons,List.map_nil,List.length_append,List.length_cons,List.length_nil]
       exact Sub.ofS [some 0,some 1,some 4]
   · rw [hd] at e e3
     simp only [if_true] at e
     have e3:(s.apps.take (k+1)).any iU=true:=by rw [e3];rfl
     simp -implicitDefEqProofs(disch:=first|decide|omega)only[↓aA,aC,aB,simprocAttr,bB,a9,hg]
     repeat refine And.intro (by omega) ?_
     refine ⟨k+1,?_,by omega,by omega⟩
     simp only [e,e3,List.map_append,List.map_cons,List.map_nil,List.length_append,List.length_cons,List.length_nil]
     exact Sub.ofS [some 0,some 1,some 4]
 · have:k=s.apps.length:=by omega
   subst this
   simp -implicitDefEqProofs(disch:=first|decide|omega)only[↓aA,aC,aB,simprocAttr,bB,List.take_length]
theorem aSz (s:Sta) (ha:s.apps.length<2^37) (hl:s.conts.length<2^38) (hs:s.slots.length<2^38) (id st:Int):aT Tryz.prog 51 [.agg (stC s),.int .i64 id,.int .i64 st] (.tup [.agg (stC (wN s id st)),.sl false 1 ((aAM s id).map I64)]):=by
 have h1:=gV s (by omega) id
 have h3:=fun n=>gB s (by omega) n
 have h4:=fun n=>aBt (iJ s n) hl hs id
 refine aT.wk3 (aO aVo (by simp) ?_)
 unfold aXC
 unfold stC at h1
 unfold dT at h1
 refine Yf ?_
 refine aE (aI.of (aM:=false) (h1) (.refl rfl) rfl (by simp)) ?_
 cases hf:dP id s.apps with
 | none =>
   have e1:wN s id st=s:=by unfold wN;rw [hf]
   have e2:aAM s id=[]:=by unfold aAM;rw [hf]
   rw [Option.getD_none,Option.isSome_none,e1,e2]
   simp -implicitDefEqProofs(disch:=first|decide|omega)only[↓aA,aC,aB,simprocAttr,bB,a9]
   exact .inr ⟨_,_,rfl,rfl,.inl (.inl rfl),.inl (.inr ⟨rfl,_,_,rfl⟩),trivial⟩
 | some a =>
   rw [Option.getD_some,Option.isSome_some]
   have h2:=fX a
   cases hv:live a
   · have e1:wN s id st=s:=by unfold wN;rw [hf];simp [hv]
     have e2:aAM s id=[]:=by unfold aAM;rw [hf];simp [hv]
     rw [hv] at h2
     rw [e1,e2]
     simp -implicitDefEqProofs(disch:=first|decide|omega)only[↓aA,aC,aB,simprocAttr,bB,a9]
     refine aE (aI.of (aM:=false) (h2) (.refl rfl) rfl (by simp)) ?_
     simp -implicitDefEqProofs(disch:=first|decide|omega)only[↓aA,aC,aB,simprocAttr,bB]
     exact .inr ⟨_,_,rfl,rfl,.inl (.inl rfl),.inl (.inr ⟨rfl,_,_,rfl⟩),trivial⟩
   · have e1:wN s id st=uT (iJ s (gD a st)) id:=by unfold wN;rw [hf];simp [hv]
     have e2:aAM s id=aBv s id:=by unfold aAM;rw [hf];simp [hv]
     rw [hv] at h2
     rw [e1,e2]
     simp -implicitDefEqProofs(disch:=first|decide|omega)only[↓aA,aC,aB,simprocAttr,bB,a9]
     refine aE (aI.of (aM:=false) (h2) (.refl rfl) rfl (by simp)) ?_
     simp -implicitDefEqProofs(disch:=first|decide|omega)only[↓aA,aC,aB,simprocAttr,bB,a9,bI]
     refine aE (aI.of (aM:=false) (h3 (gD a st)) (.cons (Vw.refl rfl) (.cons (Vw.wk (.inl (.inr ⟨_,_,rfl,rfl,by simp [WkL,Wk1,bI,gD]⟩)) rfl) .nil)) rfl (by simp)) ?_
     simp -implicitDefEqProofs(disch:=first|decide|omega)only[↓aA,aC,aB,simprocAttr]
     refine aE (aI.of (aM:=false) (h4 (gD a st)) (.refl rfl) rfl (by simp)) ?_
     simp -implicitDefEqProofs(disch:=first|decide|omega)only[↓aA,aC,aB,simprocAttr,bB]
     exact .inl (.inl (.inl rfl))
theorem z5 (s:Sta) (hl:s.apps.length<=2^20) (hn:0<=s.now/\s.now<=1000000000) (hc:∀ n∈s.apps,0<=n.seen/\n.seen<=1000000000):aT Tryz.prog 47 [.agg (stC s)] (.sl false 1 (((s.apps.filter fun a=>a.state==2&&decide (15<=s.now-a.seen)).map App.id).map I64)):=by
 refine aT.wk3 (aK aYW (by simp) ?_)
 unfold aXD
 refine Yf ?_
 unfold aJC
 refine Ya ?_
 generalize hq:(fun a:App=>a.state==2&&decide (15<=s.now-a.seen))=q
 refine aF (σ:=Nat) (fun k=>⟨[(1,.ref 0 0 0),(3,.own 1 1 0 ((s.apps.take k).filter q).length),(4,.int .i64 (k:Int))],[.box (stC s),.arr 1 ((((s.apps.take k).filter q).map App.id).map I64)]⟩) (fun k=>k<=s.apps.length) (fun k=>s.apps.length-k) 0 ?_ (by omega) ?_
 · exact Sub.ofS [some 0,none]
 rintro k hk
 unfold aJB
 have hfl:=dA (p:=q) (l:=s.apps) (k:=k)
 by_cases hki:k<s.apps.length
 · have hg:s.apps.getD k default=s.apps[k]:=by simp [hki]
   have hx:=hc _ (List.getElem_mem hki)
   have e:=cH (p:=q) hki
   have hqk:q s.apps[k]=(s.apps[k].state==2&&decide (15<=s.now-s.apps[k].seen)):=by rw [<- hq]
   generalize hout:(s.apps.take k).filter q=out at e hfl ⊢
   by_cases hu:s.apps[k].state=2
   · by_cases h10:15<=s.now-s.apps[k].seen
     · rw [if_pos (by rw [hqk];simp [hu,h10])] at e
       simp -implicitDefEqProofs(disch:=first|decide|omega)only[↓aA,aC,aB,simprocAttr,bB,a9,hg,hu,h10]
       repeat refine And.intro (by omega) ?_
       refine ⟨k+1,?_,by omega,by omega⟩
       simp only [e,List.map_append,List.map_cons,List.map_nil,List.length_append,List.length_cons,List.length_nil]
       exact Sub.ofS [some 0,some 3]
     · rw [if_neg (by rw [hqk];simp [hu];omega),List.append_nil] at e
       simp -implicitDefEqProofs(disch:=first|decide|omega)only[↓aA,aC,aB,simprocAttr,bB,a9,hg,hu,h10]
       repeat refine And.intro (by omega) ?_
       refine ⟨k+1,?_,by omega,by omega⟩
       simp only [e]
       exact .inl rfl
   · rw [if_neg (by rw [hqk];simp [hu]),List.append_nil] at e
     simp -implicitDefEqProofs(disch:=first|decide|omega)only[↓aA,aC,aB,simprocAttr,bB,a9,hg,hu]
     repeat refine And.intro (by omega) ?_
     refine ⟨k+1,?_,by omega,by omega⟩
     simp only [e]
     exact .inl rfl
 · have:k=s.apps.length:=by omega
   subst this
   refine Yj ?_
   exact .inl (.inl (.inl rfl))
structure SZ (s:Sta):Prop where
 a:s.apps.length<2^37
 c:s.conts.length<2^37
 l:s.slots.length<2^37
 k:∀ a∈s.apps,a.kills.length<2^40
 g:∀ a∈s.apps,a.grants.length<2^40
def aFD (s:Sta) (id:Int):App:=(dP id s.apps).getD gI
theorem aM0 {s:Sta} (h:SZ s) (id:Int):(aFD s id).kills.length<2^40/\(aFD s id).grants.length<2^40:=by
 unfold aFD
 cases hf:dP id s.apps with
 | none=>exact ⟨by simp [gI],by simp [gI]⟩
 | some a=>exact ⟨h.k a (jG hf).1,h.g a (jG hf).1⟩
set_option maxHeartbeats 1000000 in
theorem rO (t:Bool) (s:Sta) (ids:List Int) (hi:ids.length<2^37) (hz:∀ k,k<=ids.length->SZ (fG s (ids.take k))):aT Tryz.prog 52 [.agg (stC s),.sl t 1 (ids.map I64)] (.agg (stC (fG s ids))):=by
 unfold aT
 refine aO aVn (by simp) ?_
 unfold aXB
 refine Yf ?_
 unfold aJA
 refine Ya ?_
 refine aF (σ:=Nat) (fun k=>⟨[(1,.sl t 1 (ids.map I64)),(2,.ref 0 0 0),(4,.ref 1 0 0),(5,.int .i64 (k:Int))],[.box (stC (fG s (ids.take k))),.box [.aD,.aD,.aD,.aD,.aD,.aD,.aD,.int .i64 0,.int .i64 0,.int .i64 0]]⟩) (fun k=>k<=ids.length) (fun k=>ids.length-k) 0 (.inl rfl) (by omega) ?_
 rintro k hk
 unfold aJz
 by_cases hki:k<ids.length
 · have hg:ids.getD k default=ids[k]:=by simp [hki]
   have e:fG s (ids.take (k+1))=dX (fG s (ids.take k)) ids[k]:=by
    rw [List.take_succ_eq_append_getElem hki]
    unfold fG
    rw [List.foldl_append]
    rfl
   have hz1:=hz k hk
   generalize hσ:fG s (ids.take k)=σ at e hz1 ⊢
   have c92:=kY σ (by have:=hz1.c;omega) ids[k]
   unfold dT stC at c92
   simp -implicitDefEqProofs(disch:=first|decide|omega)only[↓aA,aC,aB,simprocAttr,bB,hg,I64]
   repeat refine And.intro (by omega) ?_
   refine bP (c92) rfl rfl ?_
   cases hf:gR ids[k] σ.conts with
   | none =>
     have e1:dX σ ids[k]=σ:=by unfold dX;rw [hf]
     rw [Option.getD_none,Option.isSome_none]
     simp -implicitDefEqProofs(disch:=first|decide|omega)only[↓aA,aC,aB,simprocAttr,bB,aY]
     refine ⟨k+1,?_,by omega,by omega⟩
     rw [e,e1]
     exact Sub.ofS [some 0,some 1]
   | some c =>
     rw [Option.getD_some,Option.isSome_some]
     have c40:=gV σ (by have:=hz1.a;omega) c.app
     have c82:=y4 (aFD σ c.app)
     have hga:=aM0 hz1 c.app
     unfold dT stC at c40
     simp -implicitDefEqProofs(disch:=first|decide|omega)only[↓aA,aC,aB,simprocAttr,bB,aY]
     refine aE (aI.of (aM:=false) (c40) (.refl rfl) rfl (by simp)) ?_
     have e0:(dP c.app σ.apps).getD gI=aFD σ c.app:=rfl
     rw [e0]
     generalize hga2:aFD σ c.app=a at hga c82 ⊢
     cases hm:c.master
     · have e1:dX σ ids[k]=iJ (mR σ c.id) (eV a c.id):=by unfold dX;rw [hf];simp only [e0,hga2,hm];rfl
       have c93:=aEL σ (by have:=hz1.c;omega) c.id
       have c94:=r9 a.grants (by omega) c.id
       unfold stC at c93
       simp -implicitDefEqProofs(disch:=first|decide|omega)only[↓aA,aC,aB,simprocAttr,bB,aY,a9,hm]
       refine aE (aI.of (aM:=false) (c93) (.refl rfl) rfl (by simp)) ?_
       simp -implicitDefEqProofs(disch:=first|decide|omega)only[↓aA,aC,aB,simprocAttr,bB,aY,bI]
       refine aE (aI.of (aM:=false) (c94) (.refl rfl) rfl (by simp)) ?_
       have ha3:(mR σ c.id).apps.length<2^38:=by have:=hz1.a;unfold mR;simp only;omega
       cases hc:a.grants.contains c.id
       · have e2:eV a c.id={ a with kills:=a.kills++[c.id] }:=by unfold eV;rw [hc];rfl
         have e3:a.grants.filter (fun g=>g !=c.id)=a.grants:=List.filter_eq_self.2 fun x hx=>by
          simp only [bne_iff_ne]
          rintro rfl
          simp [hx] at hc
         have c44:=gB (mR σ c.id) ha3 { a with kills:=a.kills++[c.id] }
         have ek:List.take (a.kills.length+1) (List.map I64 a.kills++[AV.int IntKind.i64 c.id])=(a.kills++[c.id]).map I64:=by
          rw [List.take_of_length_le (by simp)]
          simp [I64]
         rw [e3]
         simp -implicitDefEqProofs(disch:=first|decide|omega)only[↓aA,aC,aB,simprocAttr,bB,aY,I64]
         rw [ek]
         repeat' (with_reducible apply And.intro)
         all_goals first
          | omega
          | (refine aE (aI.of (aM:=false) (c44) (.refl rfl) rfl (by simp)) ?_
             simp -implicitDefEqProofs(disch:=first|decide|omega)only[↓aA,aC,aB,simprocAttr,bB]
             refine ⟨k+1,?_,by omega,by omega⟩
             rw [e,e1,e2]
             exact Sub.ofS [some 0,some 1])
       · have e2:eV a c.id={ a with grants:=a.grants.filter fun g=>g !=c.id }:=by unfold eV;rw [hc];rfl
         have c44:=gB (mR σ c.id) ha3 { a with grants:=a.grants.filter fun g=>g !=c.id }
         simp -implicitDefEqProofs(disch:=first|decide|omega)only[↓aA,aC,aB,simprocAttr,bB,aY]
         refine aE (aI.of (aM:=false) (c44) (.refl rfl) rfl (by simp)) ?_
         simp -implicitDefEqProofs(disch:=first|decide|omega)only[↓aA,aC,aB,simprocAttr,bB]
         refine ⟨k+1,?_,by omega,by omega⟩
         rw [e,e1,e2]
         exact Sub.ofS [some 0,some 1]
     · have e1:dX σ ids[k]=uT (iJ σ (fJ a σ.now)) c.app:=by unfold dX;rw [hf];simp only [e0,hga2,hm];rfl
       simp -implicitDefEqProofs(disch:=first|decide|omega)only[↓aA,aC,aB,simprocAttr,bB,aY,a9,hm]
       refine aE (aI.of (aM:=false) (c82) (.refl rfl) rfl (by simp)) ?_
       simp -implicitDefEqProofs(disch:=first|decide|omega)only[↓aA,aC,aB,simprocAttr,bB,aY,bI]
       have c44:=gB σ (by have:=hz1.a;omega) (fJ a σ.now)
       have c91:=aBt (iJ σ (fJ a σ.now)) (by have:=hz1.c;unfold iJ;simp only;omega) (by have:=hz1.l;unfold iJ;simp only;omega) c.app
       refine aG7 c44 (fun H=>.cons (Vw.refl rfl) (.cons (Vw.wk (.inl (.inr ⟨_,_,rfl,rfl,by simp [WkL,Wk1,bI,fJ]⟩)) rfl) .nil)) rfl ?_
       simp -implicitDefEqProofs(disch:=first|decide|omega)only[↓aA,aC,aB,simprocAttr]
       refine bP (c91) rfl rfl ?_
       simp -implicitDefEqProofs(disch:=first|decide|omega)only[↓aA,aC,aB,simprocAttr,bB]
       refine ⟨k+1,?_,by omega,by omega⟩
       rw [e,e1]
       exact Sub.ofS [some 0,some 1]
 · have:k=ids.length:=by omega
   subst this
   simp -implicitDefEqProofs(disch:=first|decide|omega)only[↓aA,aC,aB,simprocAttr,bB,List.take_length]
def R69:{c:CC // aJ Tryz.prog 69=c}:=⟨_,by conv=>lhs;reduce⟩
def S69:{c:CC // bA Tryz.prog 69 {} R69.1 []=c}:=⟨_,by conv=>lhs;reduce⟩
def aXr:CC:=(fun (c:CC) (_:(S69.1)=c)=>c) _ (by conv=>lhs;reduce)
theorem aYS:aZ Tryz.prog 69 aXr [4] 21:=aZ.of Tryz.f69 Tryz.func69 rfl
def a1E:{c:CC // aJ Tryz.prog 110=c}:=⟨_,by conv=>lhs;reduce⟩
def aT8:{c:CC // bA Tryz.prog 110 {} a1E.1 []=c}:=⟨_,by conv=>lhs;reduce⟩
def wU:CC:=(fun (c:CC) (_:(aT8.1.aV [1,1,0,1,0,0])=c)=>c) _ (by conv=>lhs;reduce)
def wV:CC:=(fun (c:CC->CC) (_:(fun a0=>(aT8.1.aV [1,1,0,1]).aU [0,0] a0)=c)=>c) _ (by conv=>lhs;reduce) wU
def aJV:CC:=(fun (c:CC->CC) (_:(fun a0=>(aT8.1).aU [1,1,0,1] a0)=c)=>c) _ (by conv=>lhs;reduce) wV
theorem aOc:aZ Tryz.prog 110 aJV [4] 37:=aZ.of Tryz.f110 Tryz.func110 rfl
def a1o:{c:CC // aJ Tryz.prog 132=c}:=⟨_,by conv=>lhs;reduce⟩
def aT6:{c:CC // bA Tryz.prog 132 {} a1o.1 []=c}:=⟨_,by conv=>lhs;reduce⟩
def aEj:CC:=(fun (c:CC) (_:(aT6.1.aV [1,0,1,0,0])=c)=>c) _ (by conv=>lhs;reduce)
def aEk:CC:=(fun (c:CC->CC) (_:(fun a0=>(aT6.1.aV [1,0,1]).aU [0,0] a0)=c)=>c) _ (by conv=>lhs;reduce) aEj
def aPJ:CC:=(fun (c:CC->CC) (_:(fun a0=>(aT6.1).aU [1,0,1] a0)=c)=>c) _ (by conv=>lhs;reduce) aEk
theorem aR3:aX Tryz.prog 132 aPJ [.ce 4 72 3 true,.tm 5] 35:=aX.of Tryz.f132 Tryz.func132 rfl ⟨by kernel_rfl,trivial⟩
def a07:{c:CC // aJ Tryz.prog 160=c}:=⟨_,by conv=>lhs;reduce⟩
def aTV:{c:CC // bA Tryz.prog 160 {} a07.1 []=c}:=⟨_,by conv=>lhs;reduce⟩
def aDF:CC:=(fun (c:CC) (_:(aTV.1.aV [1,1,0,0,0])=c)=>c) _ (by conv=>lhs;reduce)
def aDG:CC:=(fun (c:CC->CC) (_:(fun a0=>(aTV.1.aV [1,1,0]).aU [0,0] a0)=c)=>c) _ (by conv=>lhs;reduce) aDF
def aPt:CC:=(fun (c:CC->CC) (_:(fun a0=>(aTV.1).aU [1,1,0] a0)=c)=>c) _ (by conv=>lhs;reduce) aDG
theorem aWl:aZ Tryz.prog 160 aPt [2] 22:=aZ.of Tryz.f160 Tryz.func160 rfl
def a0n:{c:CC // aJ Tryz.prog 230=c}:=⟨_,by conv=>lhs;reduce⟩
def aTz:{c:CC // bA Tryz.prog 230 {} a0n.1 []=c}:=⟨_,by conv=>lhs;reduce⟩
def aCv:CC:=(fun (c:CC) (_:(aTz.1.aV [1,1,0,0,0])=c)=>c) _ (by conv=>lhs;reduce)
def aCw:CC:=(fun (c:CC->CC) (_:(fun a0=>(aTz.1.aV [1,1,0]).aU [0,0] a0)=c)=>c) _ (by conv=>lhs;reduce) aCv
def aOK:CC:=(fun (c:CC->CC) (_:(fun a0=>(aTz.1).aU [1,1,0] a0)=c)=>c) _ (by conv=>lhs;reduce) aCw
theorem aVU:aZ Tryz.prog 230 aOK [2] 13:=aZ.of Tryz.f230 Tryz.func230 rfl
def a0j:{c:CC // aJ Tryz.prog 234=c}:=⟨_,by conv=>lhs;reduce⟩
def aTw:{c:CC // bA Tryz.prog 234 {} a0j.1 [([1,1,1,1,0,1,0,0,1,0,0],(.f [0,2,3,4,6,1005,1,7,8,9]))]=c}:=⟨_,by conv=>lhs;reduce⟩
def aCp:CC:=(fun (c:CC) (_:(aTw.1.aV [1,1,1,1,0,1,0,0])=c)=>c) _ (by conv=>lhs;reduce)
def aCq:CC:=(fun (c:CC->CC) (_:(fun a0=>(aTw.1.aV [1,1,1,1,0,1]).aU [0,0] a0)=c)=>c) _ (by conv=>lhs;reduce) aCp
def aOG:CC:=(fun (c:CC->CC) (_:(fun a0=>(aTw.1).aU [1,1,1,1,0,1] a0)=c)=>c) _ (by conv=>lhs;reduce) aCq
theorem aVS:aZ Tryz.prog 234 aOG [6] 35:=aZ.of Tryz.f234 Tryz.func234 rfl
def a0d:{c:CC // aJ Tryz.prog 240=c}:=⟨_,by conv=>lhs;reduce⟩
def aTr:{c:CC // bA Tryz.prog 240 {} a0d.1 [([1,1,1,1,1,0,1,0,0,1,0,0,0],(.f [0,2,3,4,1005,1,10,2006,7,8,9,11,12]))]=c}:=⟨_,by conv=>lhs;reduce⟩
def aCb:CC:=(fun (c:CC) (_:(aTr.1.aV [1,1,1,1,1,0,1,0,0])=c)=>c) _ (by conv=>lhs;reduce)
def aCc:CC:=(fun (c:CC->CC) (_:(fun a0=>(aTr.1.aV [1,1,1,1,1,0,1]).aU [0,0] a0)=c)=>c) _ (by conv=>lhs;reduce) aCb
def aOA:CC:=(fun (c:CC->CC) (_:(fun a0=>(aTr.1).aU [1,1,1,1,1,0,1] a0)=c)=>c) _ (by conv=>lhs;reduce) aCc
theorem aRC:aX Tryz.prog 240 aOA [.ce 8 27 2 true] 81:=aX.of Tryz.f240 Tryz.func240 rfl ⟨by kernel_rfl,trivial⟩
def a0a:{c:CC // aJ Tryz.prog 243=c}:=⟨_,by conv=>lhs;reduce⟩
def aKr:{c:CC // bA Tryz.prog 243 { fz:=[(true,58,[58])] } a0a.1 [([1,1,1,0,1,0,0,1,0,0,1,0,0,0,0,0],(.f [0,1,2,3,4,6,7,8,10,11,12,14,1009,1013,5,15,16,17]))]=c}:=⟨_,by conv=>lhs;reduce⟩
def aB6:CC:=(fun (c:CC) (_:(aKr.1.aV [1,1,1,0,1,0,0,1,0,0,1,0,0,0])=c)=>c) _ (by conv=>lhs;reduce)
def aB8:CC:=(fun (c:CC->CC) (_:(fun a0=>(aKr.1.aV [1,1,1,0,1,0,0,1,0,0,1,0]).aU [0,0] a0)=c)=>c) _ (by conv=>lhs;reduce) aB6
def aB5:CC:=(fun (c:CC->CC) (_:(fun a0=>(aKr.1.aV [1,1,1,0,1,0,0]).aU [1,0,0,1,0] a0)=c)=>c) _ (by conv=>lhs;reduce) aB8
def aB7:CC:=(fun (c:CC->CC) (_:(fun a0=>(aKr.1.aV [1,1,1,0,1]).aU [0,0] a0)=c)=>c) _ (by conv=>lhs;reduce) aB5
def aOx:CC:=(fun (c:CC->CC) (_:(fun a0=>(aKr.1).aU [1,1,1,0,1] a0)=c)=>c) _ (by conv=>lhs;reduce) aB7
theorem aVN:aZ Tryz.prog 243 aOx [6] 60:=aZ.of Tryz.f243 Tryz.func243 rfl
theorem aUc {a b:UInt8}:((a.toNat:Int)=(b.toNat:Int))↔a=b:=by
 constructor
 · intro h
   exact UInt8.toNat_inj.1 (by omega)
 · rintro rfl;rfl
def lW (c:UInt8) (s:List UInt8):Nat->Int
 | 0=> -1
 | n+1=>if s.getD n 0=c then (n:Int) else lW c s n
theorem vD (c:UInt8) (s:List UInt8):∀ n,-1<=lW c s n/\lW c s n<n
 | 0=>by simp [lW]
 | n+1=>by
   have:=vD c s n
   unfold lW
   split<;>omega
def dot:UInt8:=46
def wO (s:List UInt8):Int:=lW dot s s.length
theorem zA (s:List UInt8): -1<=wO s/\wO s<s.length:=vD _ _ _
def dH (s:List UInt8):List UInt8×Bool:=if wO s<0 then ([],false) else (s.take (wO s).toNat,true)
theorem jH (s:List UInt8) (h:s≠[]):(dH s).1.length<s.length:=by
 have hr:=zA s
 have hp:=List.length_pos_iff.2 h
 unfold dH
 split
 · simpa using hp
 · simp;omega
def upL (s:List UInt8):List (List UInt8):=if h:s=[] then [] else s :: upL (dH s).1
termination_by s.length
decreasing_by exact jH s h
theorem jX:upL []=[]:=by unfold upL;simp
theorem oB {s:List UInt8} (h:s≠[]):upL s=s :: upL (dH s).1:=by rw [upL,dif_neg h]
theorem rH:∀ (n:Nat) (s:List UInt8),s.length<=n->(upL s).length<=s.length
 | 0,s,h=>by
   have:s=[]:=List.length_eq_zero_iff.1 (by omega)
   subst this
   simp [jX]
 | n+1,s,h=>by
   by_cases hs:s=[]
   · subst hs;simp [jX]
   · have:=jH s hs
     have ih:=rH n (dH s).1 (by omega)
     rw [oB hs,List.length_cons]
     omega
theorem kL (s:List UInt8) (hs:s.length<2^62):aT Tryz.prog 160 [.str s] (.str (dH s).1):=by
 unfold aT
 refine aK aWl (by simp) ?_
 unfold aPt
 refine Ya ?_
 unfold aDG
 refine Ya ?_
 refine aF (σ:=Nat) (fun n=>⟨[(0,.str s),(3,.int .i64 ((n:Int)-1))],[]⟩) (fun n=>n<=s.length/\wO s=lW dot s n) (fun n=>n) s.length (.inl rfl) ⟨by omega,rfl⟩ ?_
 rintro n ⟨hn,hl⟩
 unfold aDF
 cases n with
 | zero =>
   have hl:wO s= -1:=hl
   simp -implicitDefEqProofs(disch:=first|decide|omega)only[↓aA,aC,aB,simprocAttr]
   unfold dH
   rw [if_pos (by omega)]
 | succ n =>
   have e:((n+1:Nat):Int)-1=n:=by omega
   rw [e]
   unfold lW at hl
   by_cases hc:s.getD n 0=dot
   · rw [if_pos hc] at hl
     have hc2:((s.getD n 0).toNat:Int)=46:=by rw [hc];rfl
     simp -implicitDefEqProofs(disch:=first|decide|omega)only[↓aA,aC,aB,simprocAttr]
     refine ⟨by omega,by omega,?_⟩
     unfold dH
     rw [if_neg (by omega),hl]
     exact ⟨by omega,by omega,by omega,rfl⟩
   · rw [if_neg hc] at hl
     have hc2:¬ ((s.getD n 0).toNat:Int)=46:=fun h=>hc (aUc.1 h)
     simp -implicitDefEqProofs(disch:=first|decide|omega)only[↓aA,aC,aB,simprocAttr]
     refine ⟨by omega,by omega,n,.inl rfl,⟨by omega,hl⟩,by omega⟩
theorem zQ (s:List UInt8) (hs:s.length<=2^40):aT Tryz.prog 230 [.str s] (.sl false 1 ((upL s).map AV.str)):=by
 refine aT.wk3 (aK aVU (by simp) ?_)
 unfold aOK
 refine Ya ?_
 unfold aCw
 refine Ya ?_
 refine aF (σ:=List (List UInt8)×List UInt8) (fun q=>⟨[(0,.str q.2),(3,.own 0 1 0 q.1.length)],[.arr 1 (q.1.map AV.str)]⟩) (fun q=>upL s=q.1++upL q.2/\q.2.length+q.1.length<=2^40) (fun q=>q.2.length) ([],s) ?_ ⟨rfl,by simp;omega⟩ ?_
 · exact Sub.ofS [none]
 rintro ⟨out,p⟩ ⟨hu,hl⟩
 simp only at hu hl
 unfold aCv
 by_cases hp:p=[]
 · subst hp
   rw [jX,List.append_nil] at hu
   refine Ya ?_
   rw [hu]
   exact .inl (.inl (.inl rfl))
 · have hd:(p==([]:List UInt8))=false:=by simp [hp]
   have hlen:=jH p hp
   rw [oB hp] at hu
   simp -implicitDefEqProofs(disch:=first|decide|omega)only[↓aA,aC,aB,simprocAttr,hd,Bool.not_false]
   refine ⟨by omega,?_⟩
   refine aE (aI.of (aM:=false) (kL p (by omega)) (.refl rfl) rfl (by simp)) ?_
   refine Ya ?_
   refine ⟨(out++[p],(dH p).1),?_,⟨by simp [hu],by simp;omega⟩,by simp only;omega⟩
   simp only [List.length_append,List.length_cons,List.length_nil,List.map_append,List.map_cons,List.map_nil]
   exact Sub.ofS [some 2]
def vR:Queue:=⟨[],[],0⟩
def fT (p:List UInt8) (qs:List Queue):Option Queue:=qs.find? fun q=>q.path==p
def wJ (p:List UInt8) (q:Queue):Bool:= !(p==[])&&(dH q.path).1==p
def eT (p:List UInt8) (qs:List Queue):List (List UInt8):=(qs.filter (wJ p)).map Queue.path
def iM (qs:List Queue) (p:List UInt8):Bool:=(fT p qs).isSome&&(eT p qs).isEmpty
structure QZ (qs:List Queue):Prop where
 l:qs.length<2^38
 p:∀ q∈qs,q.path.length<2^38
 c:∀ q∈qs,q.caps.length<2^38
theorem kR (ls:List (List UInt8)) (qs:List Queue) (h:QZ qs) (p:List UInt8):aT Tryz.prog 132 [.agg (bN ls qs),.str p] (dT QUE vR (fT p qs)):=by
 have hl:=h.l
 refine aT.wk3 (aO aR3 (by simp) ?_)
 unfold aPJ dT fT bN
 refine Ya ?_
 unfold aEk
 refine Ya ?_
 refine aF (σ:=Nat) (fun k=>⟨[(1,.str p),(2,.ref 0 0 0),(4,.ref 1 0 0),(6,.int .i64 (k:Int))],[.box (bN ls qs),.box [.str [],.aD,.int .i64 0]]⟩) (fun k=>k<=qs.length/\qs.find? (fun q=>q.path==p)=(qs.drop k).find? (fun q=>q.path==p)) (fun k=>qs.length-k) 0 (.inl rfl) ⟨by omega,by simp⟩ ?_
 rintro k ⟨hk,hf⟩
 unfold aEj
 by_cases hki:k<qs.length
 · have hg:qs.getD k default=qs[k]:=by simp [hki]
   have hx:=h.c _ (List.getElem_mem hki)
   rw [List.drop_eq_getElem_cons hki,List.find?_cons] at hf
   cases hp:(qs[k].path==p)
   · rw [hp] at hf
     simp -implicitDefEqProofs(disch:=first|decide|omega)only[↓aA,aC,aB,simprocAttr,bB,bW,bN,hg,hp]
     exact ⟨by omega,by omega,k+1,.inl rfl,⟨by omega,hf⟩,by omega⟩
   · rw [hp] at hf
     simp -implicitDefEqProofs(disch:=first|decide|omega)only[↓aA,aC,aB,simprocAttr,bB,bW,bN,hg,hf,hp]
     repeat refine And.intro (by omega) ?_
     exact .inl (.inl (.inl rfl))
 · have:k=qs.length:=by omega
   subst this
   rw [List.drop_length] at hf
   simp -implicitDefEqProofs(disch:=first|decide|omega)only[↓aA,aC,aB,simprocAttr,bB,bW,bN,hf]
   repeat refine And.intro (by rfl) ?_
   exact .inr ⟨_,_,rfl,rfl,.inr ⟨_,_,rfl,rfl,by simp [WkL,Wk1,bU,jU,vR]⟩,.inl (.inl rfl),trivial⟩
theorem oQ (ls:List (List UInt8)) (qs:List Queue) (h:QZ qs) (p:List UInt8):aT Tryz.prog 110 [.agg (bN ls qs),.str p] (.sl false 1 ((eT p qs).map .str)):=by
 have hl:=h.l
 refine aT.wk3 (aK aOc (by simp) ?_)
 unfold aJV bN
 refine Ya ?_
 unfold wV
 refine Ya ?_
 refine aF (σ:=Nat) (fun k=>⟨[(1,.str p),(2,.ref 0 0 0),(5,.own 1 1 0 ((qs.take k).filter (wJ p)).length),(6,.int .i64 (k:Int))],[.box (bN ls qs),.arr 1 ((((qs.take k).filter (wJ p)).map Queue.path).map .str)]⟩) (fun k=>k<=qs.length) (fun k=>qs.length-k) 0 ?_ (by omega) ?_
 · exact Sub.ofS [some 0,none]
 rintro k hk
 unfold wU
 have hfl:=dA (p:=wJ p) (l:=qs) (k:=k)
 by_cases hki:k<qs.length
 · have hg:qs.getD k default=qs[k]:=by simp [hki]
   have hx:=h.p _ (List.getElem_mem hki)
   have e:=cH (p:=wJ p) hki
   have hkp:wJ p qs[k]=(!(p==[])&&(dH qs[k].path).1==p):=rfl
   have c160:=kL qs[k].path (by omega)
   generalize hout:(qs.take k).filter (wJ p)=out at e hfl ⊢
   cases hn:(p==([]:List UInt8))
   · simp -implicitDefEqProofs(disch:=first|decide|omega)only[↓aA,aC,aB,simprocAttr,bB,bW,bN,hg,hn,Bool.not_false]
     repeat refine And.intro (by omega) ?_
     refine aE (aI.of (aM:=false) (c160) (.refl rfl) rfl (by simp)) ?_
     cases ha:((dH qs[k].path).1==p)
     · rw [if_neg (by rw [hkp,hn,ha];simp),List.append_nil] at e
       simp -implicitDefEqProofs(disch:=first|decide|omega)only[↓aA,aC,aB,simprocAttr,bB,bW,bN,hg,ha]
       repeat refine And.intro (by omega) ?_
       refine ⟨k+1,?_,by omega,by omega⟩
       simp only [e]
       exact .inl rfl
     · rw [if_pos (by rw [hkp,hn,ha];simp)] at e
       simp -implicitDefEqProofs(disch:=first|decide|omega)only[↓aA,aC,aB,simprocAttr,bB,bW,bN,hg,ha]
       repeat refine And.intro (by omega) ?_
       refine ⟨k+1,?_,by omega,by omega⟩
       simp only [e,List.map_append,List.map_cons,List.map_nil,List.length_append,List.length_cons,List.length_nil]
       exact Sub.ofS [some 0,some 3]
   · rw [if_neg (by rw [hkp,hn];simp),List.append_nil] at e
     simp -implicitDefEqProofs(disch:=first|decide|omega)only[↓aA,aC,aB,simprocAttr,bB,bW,bN,hg,hn,Bool.not_true]
     repeat refine And.intro (by omega) ?_
     refine ⟨k+1,?_,by omega,by omega⟩
     simp only [e]
     exact .inl rfl
 · have:k=qs.length:=by omega
   subst this
   simp -implicitDefEqProofs(disch:=first|decide|omega)only[↓aA,aC,aB,simprocAttr,bB,bN,List.take_length]
   exact .inl (.inl (.inl rfl))
theorem sQ (ls:List (List UInt8)) (qs:List Queue) (h:QZ qs) (p:List UInt8):aT Tryz.prog 69 [.agg (bN ls qs),.str p] (.bool (iM qs p)):=by
 have h1:=kR ls qs h p
 have h2:=oQ ls qs h p
 unfold aT
 refine aK aYS (by simp) ?_
 unfold aXr iM
 unfold bN at *
 unfold dT at h1
 refine Ya ?_
 refine aE (aI.of (aM:=false) (h1) (.refl rfl) rfl (by simp)) ?_
 cases hf:fT p qs with
 | none =>
   rw [Option.getD_none,Option.isSome_none]
   simp -implicitDefEqProofs(disch:=first|decide|omega)only[↓aA,aC,aB,simprocAttr,bB,bW]
   rfl
 | some q =>
   rw [Option.getD_some,Option.isSome_some]
   simp -implicitDefEqProofs(disch:=first|decide|omega)only[↓aA,aC,aB,simprocAttr,bB,bW]
   refine aE (aI.of (aM:=false) (h2) (.refl rfl) rfl (by simp)) ?_
   generalize eT p qs=m
   simp -implicitDefEqProofs(disch:=first|decide|omega)only[↓aA,aC,aB,simprocAttr]
   cases m with
   | nil=>rfl
   | cons x m=>simp;omega
end Go.Proofs.YtakemdamegfcfaaGreat
