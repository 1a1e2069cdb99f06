/- How End computes. No condition. -/
import Derived.Test.YtakemdamegfcfaaGreatU37
import Derived.Test.YtakemdamegfcfaaGreatU45
set_option linter.unusedSimpArgs false
set_option linter.unusedVariables false
set_option maxHeartbeats 16000000
set_option maxRecDepth 20000
namespace Go.Proofs.YtakemdamegfcfaaGreat
open Go Go.Ab
theorem bGq:∀ {a b c d:List AV},WkL a b->WkL c d->WkL (a++c) (b++d)
 | [],[],_,_,_,h=>h
 | x :: a,y :: b,_,_,h,h2=>⟨h.1,bGq h.2 h2⟩
 | [],y :: b,_,_,h,_=>h.elim
 | x :: a,[],_,_,h,_=>h.elim
theorem bJ2 {x y:AV} (h:WkL x.cells y.cells):∀ (l:List AV) (i:Nat),WkL (flat (l.set i x)) (flat (l.set i y))
 | [],i=>trivial
 | a :: l,0=>bGq h (WkL.refl _)
 | a :: l,i+1=>bGq (WkL.refl _) (bJ2 h l i)
theorem bGd {s:Sta} (hS:Srt App.id s.apps) {i:Nat} (hi:i<s.apps.length) (hl:live s.apps[i]=true) (st:Int):wN s s.apps[i].id st={ s with apps:=s.apps.set i (gD s.apps[i] st),conts:=s.conts.filter (a8s s.apps[i].id),slots:=s.slots.filter (a9i s.apps[i].id) }/\aAM s s.apps[i].id=a7F s.apps[i].id s.conts:=by
 have hf:=tI hS (List.getElem_mem hi)
 have hn:∀ j,(hj:j<i)->(s.apps[j]'(by omega)).id<s.apps[i].id:=fun j hj=>List.pairwise_iff_getElem.1 hS j i (by omega) hi hj
 have hp:eE App.id (gD s.apps[i] st) s.apps=s.apps.set i (gD s.apps[i] st):=by
  have e:(gD s.apps[i] st).id=s.apps[i].id:=rfl
  rw [lI (k:=i) (by omega) (fun j hj=>by rw [e];exact hn j hj) (fun _=>by rw [e];omega),dif_pos hi,if_pos e.symm,List.set_eq_take_append_cons_drop,if_pos hi]
 constructor
 · unfold wN
   rw [hf]
   simp only [hl,if_true]
   unfold uT iJ
   rw [hp]
   rfl
 · unfold aAM
   rw [hf]
   simp only [hl,if_true]
   rfl
theorem bGe {s:Sta} {id:Int} (st:Int) (h:dP id s.apps=none∨∃ a,dP id s.apps=some a/\live a=false):wN s id st=s/\aAM s id=[]:=by
 unfold wN aAM
 rcases h with h|⟨a,h,hl⟩
 · rw [h]
   exact ⟨rfl,rfl⟩
 · rw [h]
   simp only [hl]
   exact ⟨rfl,rfl⟩
def bKT (a:App) (st:Int):List AV:=[.int .i64 a.id,.int .i64 st,.str a.queue,.int .i64 a.user,.int .i64 a.prio,.int .i64 a.mem,.int .i64 a.cores,.aD,.int .i64 a.seen,.int .i64 a.beat,.aD,.aD,.aD,.aD]
theorem x9t {d w:Nat} {e:List AV}:AV.fz1 d w e .aD= .aD:=rfl
theorem x9s:AV.aMP .aD=[]:=rfl
theorem x9r {i z o j:Nat}:AV.aMP (.own i z o j)=[i]:=rfl
theorem x9w {d w:Nat} {e cs:List AV}:AV.fz d w e (.tup [.agg cs,.aD])= .tup [.agg (cs.map (AV.fz1 d w e)),.aD]:=rfl
theorem x9y {d w i z o j:Nat} {e cs:List AV}:AV.fz d w e (.tup [.agg cs,.own i z o j])= .tup [.agg (cs.map (AV.fz1 d w e)),AV.fz1 d w e (.own i z o j)]:=rfl
theorem x9z {d w z:Nat} {t:Bool} {e cs l:List AV}:AV.fz d w e (.tup [.agg cs,.sl t z l])= .tup [.agg (cs.map (AV.fz1 d w e)),.sl t z l]:=rfl
theorem bVr (s:Sta) (hs:NOk s) (hl30:s.apps.length<=2^30) (hc36:s.conts.length<=2^30) (hs36:s.slots.length<=2^30) (hS:Srt App.id s.apps) (id st:Int):aT Tryz.prog 48 [.agg (stC s),.int .i64 id,.int .i64 st] (.tup [.agg (stC (wN s id st)),.sl false 1 ((aAM s id).map I64)]):=by
 have co:=a5v s hs
 have hb:=fun H h1 h2 h3 h4=>a5K (H:=H) (s:=s) (i:=2) (j:=5) (k:=3) (m:=4) h1 h2 h3 h4
 have ca:=a6d s id (by omega)
 refine cX (Q:=fun y=>y=_) (aO b6x (by simp) ?_)
 have dead:=fun h=>bGe (s:=s) (id:=id) st h
 have lv:=fun i hi h=>bGd hS (i:=i) hi h st
 obtain ⟨ls,qs,nodes,apps,conts,slots,plans,now,ep,sq⟩:=s
 simp only at hc36 hs36 hl30 dead lv
 unfold b9k
 unfold stO owA at *
 simp only at hb ca co
 refine Wb ?_
 refine nI co rfl rfl ?_
 rintro y G ⟨rfl,rfl⟩
 simp -implicitDefEqProofs(disch:=first|decide|omega)only[↓aA,aC,aB,simprocAttr,x8,AV.ren,AO.ren,up,AV.lG,bB]
 refine aE (aI.of (aM:=true) ca (.cons (hb _ rfl rfl rfl rfl) (.cons (Vw.refl rfl) .nil)) rfl (fun _=>rfl)) ?_
 rcases yU (idA id) apps with ⟨h1,h2⟩|⟨i,hi,h1,h2,h3,_⟩
 · obtain ⟨e1,e2⟩:=dead (.inl h2)
   rw [e1,e2,h1]
   refine Wb ?_
   refine ⟨_,?_,rfl⟩
   exact .aQi ⟨.refl _,.nil,trivial⟩
 have hg:apps.getD i default=apps[i]:=by simp [hi]
 have c11:=a2m apps[i]
 cases hlv:live apps[i]
 · obtain ⟨e1,e2⟩:=dead (.inr ⟨_,h3,hlv⟩)
   rw [hlv] at c11
   rw [e1,e2,h1]
   simp -implicitDefEqProofs(disch:=first|decide|omega)only[↓aA,aC,aB,simprocAttr,x8,bB,a9,hg]
   repeat refine And.intro (by omega) ?_
   refine aE (aI.of (aM:=false) (c11) (.refl rfl) rfl (by simp)) ?_
   refine Wb ?_
   refine ⟨_,?_,rfl⟩
   exact .aQi ⟨.refl _,.nil,trivial⟩
 · have hid:apps[i].id=id:=by simpa [idA] using h2
   obtain ⟨e1,e2⟩:=lv i hi hlv
   rw [hid] at e1 e2
   rw [hlv] at c11
   rw [e1,e2,h1]
   simp -implicitDefEqProofs(disch:=first|decide|omega)only[↓aA,aC,aB,simprocAttr,x8,bB,a9,hg]
   repeat refine And.intro (by omega) ?_
   refine aE (aI.of (aM:=false) (c11) (.refl rfl) rfl (by simp)) ?_
   have ha:bI apps[i]=[.int .i64 apps[i].id,.int .i64 apps[i].state,.str apps[i].queue,.int .i64 apps[i].user,.int .i64 apps[i].prio,.int .i64 apps[i].mem,.int .i64 apps[i].cores,.sl false 8 (apps[i].asks.map ASK),.int .i64 apps[i].seen,.int .i64 apps[i].beat,.sl false 1 (apps[i].grants.map I64),.sl false 1 (apps[i].kills.map I64),.sl false 1 (apps[i].told.map I64),.sl false 1 (apps[i].lost.map I64)]:=rfl
   refine Vh (And.intro hg ha) ?_
   have hL:dS ((List.map APP apps).getD i AV.top) 0 14 [.int .i64 apps[i].id,.int .i64 st,.str apps[i].queue,.int .i64 apps[i].user,.int .i64 apps[i].prio,.int .i64 apps[i].mem,.int .i64 apps[i].cores,.aD,.int .i64 apps[i].seen,.int .i64 apps[i].beat,.aD,.aD,.aD,.aD]= .agg (bKT apps[i] st):=by
    have:(List.map APP apps).getD i AV.top=APP apps[i]:=by simp [hi]
    rw [this]
    rfl
   rw [hL]
   repeat refine And.intro (by omega) ?_
   have hset:(apps.set i (gD apps[i] st)).map APP=(apps.map APP).set i (APP (gD apps[i] st)):=List.map_set
   have hwk:WkL (flat ((apps.map APP).set i (.agg (bKT apps[i] st)))) (flat ((apps.set i (gD apps[i] st)).map APP)):=by
    rw [hset]
    refine bJ2 ?_ _ _
    simp [bKT,AV.cells,APP,bI,gD,WkL,Wk1]
   have hel:∀ a∈(apps.set i (gD apps[i] st)).map APP,a.el 14=true:=by
    intro x hx
    obtain ⟨y,_,rfl⟩:=List.mem_map.1 hx
    rfl
   have hll:((apps.map APP).set i (.agg (bKT apps[i] st))).length=apps.length:=by simp
   have hl2:apps.length=((apps.set i (gD apps[i] st)).map APP).length:=by simp
   generalize (List.map APP apps).set i _=L at hwk hll ⊢
   generalize (apps.set i (gD apps[i] st)).map APP=L2 at hwk hel hl2 ⊢
   have hw:Wk4 (.sl false 14 L) (.sl false 14 L2):=.sl (hll.trans hl2) hel hwk
   have c24:=bPN ls qs nodes L apps.length conts slots plans now ep sq id (by omega) (by omega)
   unfold cel at c24
   refine (c24.fr [2,3,4,5]).to ?_
   have e:(if apps.length<=L.length then AV.sl false 14 (List.take apps.length L) else AV.own 5 14 0 apps.length)= .sl false 14 L:=by rw [if_pos (by omega),List.take_of_length_le (by omega)]
   rintro y G ⟨y0,Hr,⟨hg0,rfl,rfl⟩|⟨rfl,rfl⟩,rfl,rfl⟩
   · simp -implicitDefEqProofs(disch:=first|decide|omega)only[↓aA,aC,aB,simprocAttr,x8,AV.ren,AO.ren,AV.lG,ext,spl,j8,List.length_cons,List.length_nil,List.getD_cons_zero,List.getD_cons_succ,List.map_cons,List.map_nil,x9w,x9y,x9z,x9t,x9s,x9r]
     rw [e,hg0]
     refine ⟨rfl,_,?_,rfl⟩
     exact .aQi ⟨.aKn ⟨.refl _,.refl _,.refl _,hw,.refl _,.refl _,.refl _,.refl _,.refl _,.refl _,trivial⟩ (by simp [AV.one]),.nil,trivial⟩
   · simp -implicitDefEqProofs(disch:=first|decide|omega)only[↓aA,aC,aB,simprocAttr,x8,AV.ren,AO.ren,AV.lG,ext,spl,j8,List.length_cons,List.length_nil,List.getD_cons_zero,List.getD_cons_succ,List.map_cons,List.map_nil,x9w,x9y,x9z,x9t,x9s,x9r]
     rw [e]
     refine ⟨rfl,_,?_,rfl⟩
     exact .aQi ⟨.aKn ⟨.refl _,.refl _,.refl _,hw,.refl _,.refl _,.refl _,.refl _,.refl _,.refl _,trivial⟩ (by simp [AV.one]),.refl _,trivial⟩
end Go.Proofs.YtakemdamegfcfaaGreat
