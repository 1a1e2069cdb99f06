/- A part of a proof: how code is told and stepped through. No condition. -/
import Derived.Test.YtakemdamegfcfaaGreatT1
set_option linter.unusedSimpArgs false
set_option linter.unusedVariables false
namespace Go.Ab
open Go
section sound
variable {P:Program} {E:Env} {a:Act} {e:Operand->AV} {H:List AO} {K:AV->List AO->Prop}
theorem rX (z:Array Value) (n:Nat):Builtin.zeroCells z n=madeCells z (n*z.size):=rfl
theorem pF {el:TypeId} {z0:AV} {z:Nat} (hz:gC P el=some z0) (hel:z0.el z=true) (hm:HM E H) (n:Nat):∃ v,(∀ w,(zeroValue el).run P w= .ok v w)/\v.cells.size=z/\(∀ k,k<v.cells.size->(v.cells.getD k undef).oneCell'=true)/\(Builtin.zeroCells v.cells n).size=n*z /\
 (∀ u∈(Builtin.zeroCells v.cells n).toList,u.oneCell'=true)/\∀ k y,(flat (List.replicate n z0))[k]?=some y->E.VR H.length ((Builtin.zeroCells v.cells n).toList.getD k undef) y:=by
 obtain ⟨v,hv,hvs,hvv⟩:=kK (E:=E) (n:=H.length) hz hel
 have hv':∀ w,(zeroValue el).run P w= .ok v w:=fun w=>by
  obtain ⟨v2,hv2,_,_⟩:=kK (E:={ E with w:=w }) (n:=H.length) hz hel
  have e:v2=v:=by
   simp only [zeroValue,typeInfo,Sem.run_bind,run_program] at hv hv2
   cases hi:P.info? el with
   | none=>simp [hi] at hv
   | some i =>
     cases hz2:i.zero with
     | none=>simp [hi,hz2] at hv
     | some q =>
       simp [hi,hz2] at hv hv2
       rw [<- hv,<- hv2]
  rw [<- e]
  exact hv2
 have hel2:∀ q∈List.replicate n z0,q.el z=true:=fun q hq=>by rw [List.eq_of_mem_replicate hq];exact hel
 have hfl:(flat (List.replicate n z0)).length=n*z:=by rw [bJ hel2,List.length_replicate]
 have hsz:(Builtin.zeroCells v.cells n).size=n*z:=by rw [size_zeroCells,hvs]
 have hvr:∀ k y,(flat (List.replicate n z0))[k]?=some y->E.VR H.length ((Builtin.zeroCells v.cells n).toList.getD k undef) y:=fun k y hk=>by
  have:=oY (E:=E) (n:=H.length) hel hvs hvv n (n*v.cells.size) (by rw [hvs];exact Nat.le_refl _) k y hk
  rw [<- rX] at this
  simpa [Array.getD_eq_getD_getElem?,List.getD_eq_getElem?_getD] using this
 refine ⟨v,hv',hvs,fun k hk=>?_,hsz,fun u hu=>?_,hvr⟩
 · obtain ⟨e1,e2⟩:=dD hel
   have hk2:k<z0.cells.length:=by omega
   exact (hvv k _ (List.getElem?_eq_getElem hk2)).one (AV.eF (e2 _ (List.getElem_mem hk2)))
 obtain ⟨k,hk,rfl⟩:=List.mem_iff_getElem.1 hu
 have hk':k<(flat (List.replicate n z0)).length:=by rw [hfl,<- hsz];simpa using hk
 have h1:=hvr k _ (List.getElem?_eq_getElem hk')
 have h2:((flat (List.replicate n z0))[k]'hk').one=true:=by
  obtain ⟨q,hq,hq2⟩:=List.mem_flatMap.1 (List.getElem_mem hk')
  exact AV.eF ((dD (hel2 q hq)).2 _ hq2)
 have h3:=h1.one h2
 rw [List.getD_eq_getElem?_getD,List.getElem?_eq_getElem hk] at h3
 exact h3
theorem aES {o:Oper} {t t2 el:TypeId} {kk:IntKind} {args:Array Operand} {ts:Array TypeId} {s x:Operand} {z0:AV} (ho:o.op= .call { callee:=.builtin .append,args:=args,argTypes:=ts }) (ha:args.toList=[s,x]) (hts:ts.toList=[t,t2])
 (ht:P.underlying t=some (.slice el)) (ht2:P.underlying t2=some (.int kk)) (hz:gC P el=some z0) (hi:(P.info? el).isSome=true)
 (hm:HM E H) (he:∀ x,E.VR H.length (a.eval x) (e x)) (h:bQ (.apz (P.cellsOf el) (P.bytesOf el) z0 s x) e H K):WS P E H a o K:=by
 obtain ⟨ii,hii⟩:=Option.isSome_iff_exists.1 hi
 obtain ⟨args⟩:=args
 obtain ⟨ts⟩:=ts
 simp only at ha hts
 subst ha hts
 have hs:execOp a.eval o=(do pure (.value (<- Builtin.append_ #[t,t2] o.type #[a.eval s,a.eval x]))):=by
  simp only [execOp,ho,resolve,invoke,pure_bind,builtin,List.map_toArray,List.map_cons,List.map_nil]
 have hsv:=he s
 have hxv:=he x
 generalize hzz:P.cellsOf el=z at *
 simp only [bQ] at h
 split at h
 · rename_i l k n hl hex
   obtain ⟨hnsl,⟨hn0,hn63⟩,⟨hb,h63⟩,hz0,hk⟩:=h
   rw [hex] at hxv
   obtain ⟨A,c,hv,hlc,hel,hc⟩:=fE hm hsv hl
   rw [hv,hxv.dB] at hs
   obtain ⟨m,rfl⟩:∃ m:Nat,n=m:=⟨n.toNat,by omega⟩
   simp only [Int.toNat_natCast] at hk hb h63
   have hwr:IntKind.i64.wrap (m:Int)=(m:Int):=by simp [IntKind.wrap,IntKind.signed,IntKind.bits];omega
   have hsz:∀ w,(sizeOf el).run P w= .ok z w:=fun w=>by rw [run_sizeOf _ hii,hzz]
   have hby:∀ w,(typeInfo el).run P w= .ok ii w:=fun w=>run_typeInfo _ hii
   have hbb:ii.bytes=P.bytesOf el:=by simp [Program.bytesOf,hii]
   have hmb:m*P.bytesOf el<=(l.length+m)*P.bytesOf el:=Nat.mul_le_mul_right _ (by omega)
   have h48:¬ (281474976710656<(m:Int)*(ii.bytes:Int)):=by
    rw [hbb,<- Int.natCast_mul]
    omega
   have hneg:¬ ((m:Int)<0):=by omega
   have hrl:(List.replicate m z0).length=m:=List.length_replicate
   have helr:∀ q∈List.replicate m z0,q.el z=true:=fun q hq=>by rw [List.eq_of_mem_replicate hq];exact hz0
   have helm:∀ q∈l++List.replicate m z0,q.el z=true:=fun q hq=>(List.mem_append.1 hq).elim (hel q) (helr q)
   rw [<- hrl] at hk
   rw [List.length_replicate] at hk
   obtain ⟨v,hzv,hvs,hvo,hzs,hz1,hzvr⟩:=pF hz hz0 hm m
   have hnew:∀ w,(if m*z=0 then (pure #[]:Sem (Array Value)) else do pure (Builtin.zeroCells (<- zeroValue el).cells m)).run P w= .ok (Builtin.zeroCells v.cells m) w:=fun w=>by
    split
    · rename_i h0
      rw [Sem.run_pure]
      congr 1
      exact (Array.eq_empty_of_size_eq_zero (by rw [hzs,h0])).symm
    · simp only [Sem.run_bind,hzv,Result.andThen_ok,Sem.run_pure]
   refine rC (el:=el) (m:=List.replicate m z0) hs hm hsv hl hv hlc helm helr hnsl (fun e1 e2 e3=>?_) (fun hroom=>?_) (fun hgrow=>?_) (by rw [hrl];exact hk)
   · subst e1 e3
     have hm0:m=0:=by rw [<- hrl,e2];rfl
     subst hm0
     have hw0:IntKind.i64.wrap 0=0:=by decide
     cases A<;>simp [Builtin.append_,run_underlying ht,run_underlying ht2,hsz,hby,hw0,storeCells,asInt,asIntOf]
   · rw [hrl] at hroom ⊢
     refine ⟨(Builtin.zeroCells v.cells m).toList,by simpa using hzs,hz1,hzvr,fun b p w' hA hst=>?_⟩
     subst hA
     have hst':(storeCells ⟨b,p+l.length*z,none⟩ (Builtin.zeroCells v.cells m).toList 0).run P E.w= .ok () w':=hst
     simp [Builtin.append_,run_underlying ht,run_underlying ht2,hsz,hby,hwr,asInt,asIntOf,h48,hneg,hroom]
     have ea:Addr.add ⟨b,p,none⟩ (l.length*z)=⟨b,p+l.length*z,none⟩:=iP ..
     rw [ea]
     by_cases h0:m*z=0
     · have e0:Builtin.zeroCells v.cells m= #[]:=Array.eq_empty_of_size_eq_zero (by rw [hzs,h0])
       rw [e0] at hst'
       rw [if_pos h0]
       have hst2:(storeCells ⟨b,p+l.length*z,none⟩ [] 0).run P E.w= .ok () w':=hst'
       rw [hst2,Result.andThen_ok]
     · rw [if_neg h0,hzv]
       simp only [Result.andThen_ok]
       rw [hst',Result.andThen_ok]
   · rw [hrl] at hgrow ⊢
     have hmd:=j6 hm
     have hsd:E.drew.VR H.length (a.eval s) (e s):=hsv.trans hm cC
     obtain ⟨us,u1,u2,u3,u4⟩:=eA (P:=P) hmd hsd hl l.length (Nat.le_refl _)
     rw [List.take_length] at u4
     rw [hv] at u1
     refine ⟨us,(Builtin.zeroCells v.cells m).toList,v.cells,u2,by simpa using hzs,hvs,hvo,u4,fun k y hk=>(hzvr k y hk).trans hm cC,?_⟩
     have hn:¬ (l.length+m<=c):=by omega
     have h63':¬ (9223372036854775807<((l.length:Int)+(m:Int))):=by omega
     have h48':¬ (281474976710656<Builtin.nextslicecap (l.length+m) c*ii.bytes):=by
      have:=growslice_fits (need:=l.length+m) (old:=c) (bytes:=ii.bytes) (by omega) (by rw [hbb];omega)
      omega
     simp [Builtin.append_,run_underlying ht,run_underlying ht2,hsz,hby,hwr,asInt,asIntOf,h48,hneg,hn,h63',h48',Question.forced,newRow,grownCap]
     have u1':(Builtin.firstCells z l.length (.slice A l.length c)).run P E.w.drew= .ok us.toArray E.w.drew:=u1
     rw [u1']
     simp only [Result.andThen_ok]
     have e9:∀ k,us.toArray++(Builtin.zeroCells v.cells m++Builtin.zeroCells v.cells k)=(us++(Builtin.zeroCells v.cells m).toList).toArray++Builtin.zeroCells v.cells k:=fun k=>by
      apply Array.ext'
      simp [List.append_assoc]
     by_cases h0:m*z=0
     · have e0:Builtin.zeroCells v.cells m= #[]:=Array.eq_empty_of_size_eq_zero (by rw [hzs,h0])
       rw [if_pos h0,hzv]
       simp only [Result.andThen_ok]
       rw [e0]
       simp
     · rw [if_neg h0,hzv]
       simp only [Result.andThen_ok]
       rw [hzv]
       simp only [Result.andThen_ok]
       rw [e9]
       simp
 · exact h.elim
end sound
def CO.ops:CO->List Operand
 | .mv x| .un _ x| .cvi _ x| .fad _ x| .fld _ _ _ x| .ext _ x| .lens x| .lenl x| .capl x| .ld _ _ x| .ldp _ _ x| .cbs x| .bx x| .pan x| .clr _ _ x| .mvx x=>[x]
 | .pick c a b=>[c,a,b]
 | .bin _ x y| .beq _ x y| .seq _ _ x y| .isn _ _ x y| .iad _ x y| .iab _ x y| .sap _ _ x y| .ixs x y| .st _ x y| .app _ _ x y| .apin _ _ x y| .apz _ _ _ x y| .cpy _ x y| .mks _ _ _ x y=>[x,y]
 | .mkf _ a b=>a++b
 | .slc _ x lo hi=>x :: (lo.toList++hi.toList)
 | .sls x lo hi| .sle _ x lo hi=>x :: (lo.toList++hi.toList)
 | .s3 _ x lo hi mx=>x :: mx :: (lo.toList++hi.toList)
 | .mm _ x xs=>x :: xs
 | .bld _ ps=>ps.map (·.2.2)
 | .bls _ _ _ ps| .sbl _ _ _ ps=>ps.map (·.2)
 | .al _=>[]
 | .agz _ _ _ s x g=>[s,x,g]
 | .call _ args| .xcl _ args| .calf _ args=>args
 | .calv x args=>x :: args
section congr
variable {e e':Operand->AV}
theorem j4 {c:CO} {K:AV->Prop} (h:∀ x∈c.ops,e x=e' x):bH c e K=bH c e' K:=by
 have map_congr:∀ l:List Operand,(∀ x∈l,e x=e' x)->l.map e=l.map e':=fun l hl=>List.map_congr_left hl
 have opt_congr:∀ o:Option Operand,(∀ x∈o.toList,e x=e' x)->o.map e=o.map e':=fun o ho=>by
  cases o with
  | none=>rfl
  | some x=>simp only [Option.map_some,ho x (by simp)]
 cases c<;>simp only [CO.ops] at h<;>simp only [bH]
 case mkf fn f g=>rw [map_congr f (fun x hx=>h x (List.mem_append_left _ hx)),map_congr g (fun x hx=>h x (List.mem_append_right _ hx))]
 case slc z x lo hi =>
  rw [h x (by simp),opt_congr lo (fun y hy=>h y (by simp at hy;simp [hy])),opt_congr hi (fun y hy=>h y (by simp at hy;simp [hy]))]
 case sls x lo hi =>
  rw [h x (by simp),opt_congr lo (fun y hy=>h y (by simp at hy;simp [hy])),opt_congr hi (fun y hy=>h y (by simp at hy;simp [hy]))]
 case mm mx x xs=>rw [h x (by simp),map_congr xs (fun y hy=>h y (by simp [hy]))]
 case bld z ps =>
  have:(ps.map fun (o,n,x)=>(o,n,e x))=ps.map fun (o,n,x)=>(o,n,e' x):=List.map_congr_left fun p hp=>by
   obtain ⟨o,n,x⟩:=p
   simp only [h x (List.mem_map.2 ⟨(o,n,x),hp,rfl⟩)]
  rw [this]
 case pick x y z=>rw [h x (by simp),h y (by simp),h z (by simp)]
 all_goals first
  | rfl
  | (rename_i x y;rw [h x (by simp),h y (by simp)])
  | (rename_i x;rw [h x (by simp)])
theorem nW {c:CO} {H:List AO} {K:AV->Prop} (h:∀ x∈c.ops,e x=e' x):cP c e H K=cP c e' H K:=by
 cases c<;>simp only [CO.ops] at h<;>simp only [cP]
 case s3 z x lo hi mx =>
  have opt_congr:∀ o:Option Operand,(∀ x∈o.toList,e x=e' x)->o.map e=o.map e':=fun o ho=>by
   cases o with
   | none=>rfl
   | some x=>simp only [Option.map_some,ho x (by simp)]
  rw [h x (by simp),h mx (by simp),opt_congr lo (fun y hy=>h y (by simp at hy;simp [hy])),opt_congr hi (fun y hy=>h y (by simp at hy;simp [hy]))]
 all_goals first
  | rfl
  | (rename_i x;rw [h x (by simp)])
theorem jW {c:CO} {H:List AO} {K:AV->List AO->Prop} (h:∀ x∈c.ops,e x=e' x):bQ c e H K=bQ c e' H K:=by
 cases c<;>simp only [CO.ops] at h<;>simp only [bQ]
 case bls z len zero ps =>
  have h1:(ps.all fun p=>decide (p.1<len)&&(e p.2).el z)=ps.all fun p=>decide (p.1<len)&&(e' p.2).el z:=by
   rw [Bool.eq_iff_iff]
   simp only [List.all_eq_true]
   constructor<;>intro hh p hp<;>have h2:=h p.2 (List.mem_map.2 ⟨p,hp,rfl⟩)<;>have h3:=hh p hp
   · rwa [h2] at h3
   · rwa [h2]
  have h2:ps.map (fun p=>(p.1,e p.2))=ps.map fun p=>(p.1,e' p.2):=List.map_congr_left fun p hp=>by rw [h p.2 (List.mem_map.2 ⟨p,hp,rfl⟩)]
  rw [h1,h2]
 all_goals first
  | rfl
  | (rename_i x y;rw [h x (by simp),h y (by simp)])
  | (rename_i x;rw [h x (by simp)])
theorem fH {c:CO} {K K':AV->Prop} (hk:∀ y,K y->K' y) (h:bH c e K):bH c e K':=by
 have bnd2:∀ {lo hi:Option AV} {d m:Nat} {f:Nat->Nat->AV},(dQ hi d fun h=>h<=m/\dQ lo 0 fun lw=>lw<=h/\K (f lw h))->(dQ hi d fun h=>h<=m/\dQ lo 0 fun lw=>lw<=h/\K' (f lw h)) :=
  fun h=>iD (fun _ hz=>⟨hz.1,iD (fun _ hq=>⟨hq.1,hk _ hq.2⟩) hz.2⟩) h
 have mm:∀ {mx:Bool} {k:IntKind} (xs:List AV) (acc:Int),mmK mx k acc xs K->mmK mx k acc xs K':=by
  intro mx k xs
  induction xs with
  | nil=>intro acc h;exact hk _ h
  | cons x xs ih =>
    intro acc h
    cases x<;>simp only [mmK] at h ⊢
    exact ⟨h.1,ih _ h.2⟩
 cases c<;>simp only [bH] at h ⊢
 case slc z x lo hi =>
  unfold slK at h ⊢
  split at h
  · exact ⟨h.1,bnd2 h.2⟩
  · exact ⟨h.1,bnd2 h.2⟩
  · exact bnd2 (f:=fun _ _=>.aD) h
  · exact h.elim
 case bin op x y =>
  unfold uM at h ⊢
  split at h
  · refine ⟨h.1,?_⟩
    have h:=h.2
    cases op<;>simp only [ik] at h ⊢ <;>first|exact hk _ h|exact ⟨h.1,hk _ h.2⟩
  · cases op<;>simp only [sk] at h ⊢ <;>first|exact h.elim|exact hk _ h|exact ⟨h.1,hk _ h.2⟩
  · exact h.elim
 case un op x =>
  unfold unK at h ⊢
  split at h<;>first|exact h.elim|exact hk _ h
 case isn k neg x y=>exact ⟨h.1,u9 (fun q hq=>hk _ hq) h.2⟩
 case seq neg ks x y =>
  split at h
  · obtain ⟨b,h1,h2⟩:=h
    exact ⟨b,h1,hk _ h2⟩
  · exact h.elim
 case sls x lo hi =>
  split at h
  · exact bnd2 h
  · exact h.elim
 case mm mx x xs =>
  split at h
  · exact mm _ _ h
  · exact h.elim
 all_goals first
  | exact h.elim
  | exact hk _ h
  | exact ⟨h.1,h.2.1,hk _ h.2.2⟩
  | (split at h<;>first
      | exact h.elim
      | exact hk _ h
      | exact ⟨h.1,hk _ h.2⟩
      | exact ⟨h.1,h.2.1,hk _ h.2.2⟩
      | exact ⟨h.1,h.2.1,h.2.2.1,hk _ h.2.2.2⟩
      | exact ⟨h.1,h.2.1,h.2.2.1,h.2.2.2.1,hk _ h.2.2.2.2⟩)
theorem aGS {n:Nat} {lo hi mx:Option AV} {K:Prop} (h:dQ mx n fun m=>m<=n/\dQ hi n fun h=>h<=m/\dQ lo 0 fun lw=>lw<=h/\K):K/\∀ K':Prop,K'->dQ mx n fun m=>m<=n/\dQ hi n fun h=>h<=m/\dQ lo 0 fun lw=>lw<=h/\K':=by
 have key:∀ (x:Option AV) (d:Nat) (Q:Nat->Prop),dQ x d Q->∃ r,Q r/\∀ Q':Nat->Prop,Q' r->dQ x d Q':=by
  intro x d Q h
  cases x with
  | none=>exact ⟨d,h,fun _ h=>h⟩
  | some y =>
    cases y<;>simp only [dQ] at h
    exact ⟨_,h.2,fun _ h'=>⟨h.1,h'⟩⟩
 obtain ⟨m,⟨h1,h2⟩,b1⟩:=key _ _ _ h
 obtain ⟨g,⟨h3,h4⟩,b2⟩:=key _ _ _ h2
 obtain ⟨w,⟨h5,h6⟩,b3⟩:=key _ _ _ h4
 exact ⟨h6,fun K' k'=>b1 _ ⟨h1,b2 _ ⟨h3,b3 _ ⟨h5,k'⟩⟩⟩⟩
theorem jD {c:CO} {H:List AO} {K K':AV->Prop} (hk:∀ y,K y->K' y) (h:cP c e H K):cP c e H K':=by
 cases c<;>simp only [cP] at h ⊢
 case ld n agg x =>
  split at h
  · split at h
    · exact ⟨h.1,h.2.1,h.2.2.1,hk _ h.2.2.2⟩
    · exact ⟨h.1,h.2.1,h.2.2.1,hk _ h.2.2.2⟩
    · exact h.elim
  · exact ⟨h.1,h.2.1,hk _ h.2.2⟩
  · exact h.elim
 case cbs x =>
  split at h
  · obtain ⟨s,h1,h2⟩:=h
    exact ⟨s,h1,hk _ h2⟩
  · exact h.elim
 case s3 z x lo hi mx =>
  split at h
  · obtain ⟨h1,h2⟩:=aGS h
    exact h2 _ (hk _ h1)
  · exact h.elim
theorem sP {c:CO} {H:List AO} {K:AV->Prop} (h:cP c e H K):∃ y,cP c e H (· =y)/\K y:=by
 cases c<;>simp only [cP] at h ⊢
 case ld n agg x =>
  split at h
  · split at h
    · exact ⟨_,⟨h.1,h.2.1,h.2.2.1,rfl⟩,h.2.2.2⟩
    · exact ⟨_,⟨h.1,h.2.1,h.2.2.1,rfl⟩,h.2.2.2⟩
    · exact h.elim
  · exact ⟨_,⟨h.1,h.2.1,rfl⟩,h.2.2⟩
  · exact h.elim
 case cbs x =>
  split at h
  · obtain ⟨s,h1,h2⟩:=h
    exact ⟨_,⟨s,h1,rfl⟩,h2⟩
  · exact h.elim
 case s3 z x lo hi mx =>
  split at h
  · obtain ⟨h1,h2⟩:=aGS h
    exact ⟨_,h2 _ rfl,h1⟩
  · exact h.elim
theorem nX {H G:List AO} {z:Nat} {x:AV} {l:List AV} (h:rdS H z x=some l):rdS (H++G) z x=some l:=by
 unfold rdS at h ⊢
 split at h
 · exact h
 · split at h
   · rename_i hz
     rw [if_pos hz]
     split at h
     · rename_i z'' l' hid
       rw [List.getElem?_append_left (List.getElem?_eq_some_iff.1 hid).1,hid]
       exact h
     · cases h
   · cases h
 · exact h
 · cases h
theorem xP {c:CO} {H G:List AO} {K:AV->Prop} (h:cP c e H K):cP c e (H++G) K:=by
 cases c<;>simp only [cP] at h ⊢
 case ld n agg x =>
  split at h
  · split at h
    · rename_i hid;rw [List.getElem?_append_left (List.getElem?_eq_some_iff.1 hid).1,hid];exact h
    · rename_i hid;rw [List.getElem?_append_left (List.getElem?_eq_some_iff.1 hid).1,hid];exact h
    · exact h.elim
  · exact h
  · exact h.elim
 case cbs x =>
  split at h
  · rename_i l hl
    rw [nX hl]
    exact h
  · exact h.elim
 case s3 z x lo hi mx =>
  split at h
  · rename_i l hl
    rw [nX hl]
    exact h
  · exact h.elim
theorem lC {c:CO} {H:List AO} {K K':AV->List AO->Prop} (hk:∀ y G,K y G->K' y G) (h:bQ c e H K):bQ c e H K':=by
 cases c<;>simp only [bQ] at h ⊢
 case bx x=>exact ⟨h.1,hk _ _ h.2⟩
 case al z=>exact ⟨h.1,hk _ _ h.2⟩
 case st n x v =>
  refine ⟨h.1,?_⟩
  have h:=h.2
  split at h
  · split at h
    · exact ⟨h.1,h.2.1,h.2.2.1,hk _ _ h.2.2.2⟩
    · exact ⟨h.1,h.2.1,h.2.2.1,hk _ _ h.2.2.2⟩
    · exact h.elim
  · exact h.elim
 case bls z len zero ps=>exact ⟨h.1,h.2.1,h.2.2.1,hk _ _ h.2.2.2⟩
 case mks z b zero l c =>
  split at h
  · exact ⟨h.1,h.2.1,h.2.2.1,h.2.2.2.1,h.2.2.2.2.1,hk _ _ h.2.2.2.2.2⟩
  · exact h.elim
 case app z b s x =>
  split at h
  · exact ⟨h.1,h.2.1,hk _ _ h.2.2⟩
  · exact h.elim
 case cpy z d s =>
  split at h
  · refine ⟨h.1,?_⟩
    have h:=h.2
    split at h
    · exact ⟨h.1,h.2.1,hk _ _ h.2.2⟩
    · exact h.elim
  · exact hk _ _ h
  · exact h.elim
 case apin z b s x =>
  split at h
  · refine ⟨h.1,?_⟩
    have h:=h.2
    split at h
    · exact ⟨h.1,hk _ _ h.2⟩
    · exact h.elim
  · exact h.elim
 case clr z zero x =>
  split at h
  · refine ⟨h.1,?_⟩
    have h:=h.2
    split at h
    · exact ⟨h.1,hk _ _ h.2⟩
    · exact h.elim
  · exact h.elim
 case apz z b zero s x =>
  split at h
  · exact ⟨h.1,h.2.1,h.2.2.1,h.2.2.2.1,hk _ _ h.2.2.2.2⟩
  · exact h.elim
theorem qK {c:CO} {H:List AO} {K:AV->List AO->Prop} (h:bQ c e H K):∃ y G,bQ c e H (fun a b=>a=y/\b=G)/\K y G:=by
 cases c<;>simp only [bQ] at h ⊢
 case bx x=>exact ⟨_,_,⟨h.1,rfl,rfl⟩,h.2⟩
 case al z=>exact ⟨_,_,⟨h.1,rfl,rfl⟩,h.2⟩
 case st n x v =>
  obtain ⟨h0,h⟩:=h
  split at h
  · split at h
    · exact ⟨_,_,⟨h0,h.1,h.2.1,h.2.2.1,rfl,rfl⟩,h.2.2.2⟩
    · exact ⟨_,_,⟨h0,h.1,h.2.1,h.2.2.1,rfl,rfl⟩,h.2.2.2⟩
    · exact h.elim
  · exact h.elim
 case bls z len zero ps=>exact ⟨_,_,⟨h.1,h.2.1,h.2.2.1,rfl,rfl⟩,h.2.2.2⟩
 case mks z b zero l c =>
  split at h
  · exact ⟨_,_,⟨h.1,h.2.1,h.2.2.1,h.2.2.2.1,h.2.2.2.2.1,rfl,rfl⟩,h.2.2.2.2.2⟩
  · exact h.elim
 case app z b s x =>
  split at h
  · exact ⟨_,_,⟨h.1,h.2.1,rfl,rfl⟩,h.2.2⟩
  · exact h.elim
 case cpy z d s =>
  split at h
  · obtain ⟨h0,h⟩:=h
    split at h
    · exact ⟨_,_,⟨h0,h.1,h.2.1,rfl,rfl⟩,h.2.2⟩
    · exact h.elim
  · exact ⟨_,_,⟨rfl,rfl⟩,h⟩
  · exact h.elim
 case apin z b s x =>
  split at h
  · obtain ⟨h0,h⟩:=h
    split at h
    · exact ⟨_,_,⟨h0,h.1,rfl,rfl⟩,h.2⟩
    · exact h.elim
  · exact h.elim
 case clr z zero x =>
  split at h
  · obtain ⟨h0,h⟩:=h
    split at h
    · exact ⟨_,_,⟨h0,h.1,rfl,rfl⟩,h.2⟩
    · exact h.elim
  · exact h.elim
 case apz z b zero s x =>
  split at h
  · exact ⟨_,_,⟨h.1,h.2.1,h.2.2.1,h.2.2.2.1,rfl,rfl⟩,h.2.2.2.2⟩
  · exact h.elim
end congr
section sound
variable {P:Program} {E:Env} {a:Act} {e:Operand->AV} {H:List AO}
theorem aK5 {K:AV->Prop} {o:Oper} {t el:TypeId} {x h mx:Operand} {lo:Option Operand} (ho:o.op= .slice t x lo (some h) (some mx)) (ht:P.underlying t=some (.slice el)) (hi:(P.info? el).isSome=true)
 (hm:HM E H) (he:∀ x,E.VR H.length (a.eval x) (e x)) (hk:cP (.s3 (P.cellsOf el) x lo (some h) mx) e H K):LS P E H.length a o K:=by
 obtain ⟨ii,hii⟩:=Option.isSome_iff_exists.1 hi
 have hs:execOp a.eval o=(do pure (.value (<- Instr.sliceAt t (a.eval x) (lo.map a.eval) (some (a.eval h)) (some (a.eval mx))))):=by simp [execOp,ho]
 have hx:=he x
 simp only [cP] at hk
 split at hk
 · rename_i l hl
   obtain ⟨A,c,hv,hlc,hel,hc⟩:=fE hm hx hl
   rw [hv] at hs
   have hsz:(sizeOf el).run P E.w= .ok (P.cellsOf el) E.w:=by rw [run_sizeOf _ hii]
   obtain ⟨m,⟨h1,h2⟩,h3⟩:=iY (P:=P) (E:=E) (n:=H.length) (v:=some (a.eval mx)) (cap:=c) (code:=.slice3Acap) (he mx) hk
   obtain ⟨g,⟨h4,h5⟩,h6⟩:=iY (P:=P) (E:=E) (n:=H.length) (v:=some (a.eval h)) (cap:=m) (code:=.slice3B) (he h) h2
   have hlo:match lo.map e,lo.map a.eval with|none,none=>True|some y,some u=>E.VR H.length u y|_,_=>False:=by
    cases lo with
    | none=>trivial
    | some q=>exact he q
   obtain ⟨w,⟨h7,h8⟩,h9⟩:=iY (P:=P) (E:=E) (n:=H.length) (cap:=g) (code:=.slice3C) hlo h5
   have h3:(Instr.sliceBound (a.eval mx) c .slice3Acap).run P E.w= .ok m E.w:=h3 (by omega)
   have h6:(Instr.sliceBound (a.eval h) m .slice3B).run P E.w= .ok g E.w:=h6 h4
   refine .of hs (v:=.slice (if m=w then A else A.map (·.add (w*P.cellsOf el))) (g-w) (m-w)) ?_ .top h8
   simp only [Instr.sliceAt,Sem.run_bind,run_underlying ht,Result.andThen_ok,Instr.slice,Instr.sliceBounds,Sem.run_pure,if_true,Option.isSome_some]
   rw [h3]
   simp only [Result.andThen_ok]
   rw [h6]
   simp only [Result.andThen_ok]
   cases lo with
   | none =>
     simp only [Option.map_none] at h9 ⊢
     subst h9
     simp [hsz]
   | some q =>
     simp only [Option.map_some] at h9 ⊢
     have h9:(Instr.sliceBound (a.eval q) g .slice3C).run P E.w= .ok w E.w:=h9 h7
     simp [h9,hsz]
 · exact hk.elim
theorem aEQ {K:AV->List AO->Prop} {o:Oper} {t el:TypeId} {args:Array Operand} {ts:Array TypeId} {x:Operand} {z0:AV} (ho:o.op= .call { callee:=.builtin .clear,args:=args,argTypes:=ts }) (ha:args.toList=[x]) (hts:ts.toList=[t])
 (ht:P.underlying t=some (.slice el)) (hz:gC P el=some z0) (hi:(P.info? el).isSome=true) (hm:HM E H) (he:∀ x,E.VR H.length (a.eval x) (e x)) (h:bQ (.clr (P.cellsOf el) z0 x) e H K):WS P E H a o K:=by
 obtain ⟨ii,hii⟩:=Option.isSome_iff_exists.1 hi
 obtain ⟨args⟩:=args
 obtain ⟨ts⟩:=ts
 simp only at ha hts
 subst ha hts
 have hs:execOp a.eval o=(do pure (.value (<- Builtin.clear_ #[t] o.type #[a.eval x]))):=by
  simp only [execOp,ho,resolve,invoke,pure_bind,builtin,List.map_toArray,List.map_cons,List.map_nil]
 have hx:=he x
 generalize hzz:P.cellsOf el=z at *
 simp only [bQ] at h
 split at h
 · rename_i id z' off len heq
   obtain ⟨⟨rfl,hz0⟩,h⟩:=h
   rw [heq] at hx
   split at h
   · rename_i z'' l hob
     obtain ⟨⟨rfl,hoff⟩,hk⟩:=h
     obtain ⟨_,⟨A,hv,rfl,he0⟩|⟨L,c,hL,hLz,hv,hlen,hcap⟩⟩:=hx.cN
     · have hHset:H.set id (.arr z'' (l.take off++List.replicate 0 z0++l.drop (off+0)))=H:=by
        have:l.take off++List.replicate 0 z0++l.drop (off+0)=l:=by simp
        rw [this]
        apply List.ext_getElem?
        intro j
        by_cases hj:j=id
        · subst hj
          have hjl:=(List.getElem?_eq_some_iff.1 hob).1
          rw [List.getElem?_set_self hjl,hob]
        · rw [List.getElem?_set_ne (by omega)]
       rw [hHset] at hk
       refine ⟨.tuple #[],_,E,_,.inl ?_,.tup (vs:=[]) rfl (fun k y hk=>by simp at hk),hm,Trans.refl _ _,hk⟩
       rw [hs,hv]
       cases A<;>simp [Builtin.clear_,run_underlying ht]
     · rcases hm.obj id _ hob with ⟨g1,g2⟩|⟨L',u,t',fz,g1,g2,g3,g4,g5,g6,g7,g8,g9,g10,g11⟩
       · rw [hL] at g1;cases g1
       rw [hL] at g1
       cases g1
       obtain ⟨v,hzv,hvs,hvo,hzs,hz1,hzvr⟩:=pF (P:=P) (E:=E) (H:=H) hz hz0 hm len
       obtain ⟨cur,hst,hm1,t1⟩:=uQ (P:=P) hm hob hL g2 g3 g4 g5 g6 g7 g8 g9 g10 g11 (off:=off) (ms:=List.replicate len z0) (ws:=(Builtin.zeroCells v.cells len).toList) (by rw [List.length_replicate];exact hoff)
        (fun q hq=>by rw [List.eq_of_mem_replicate hq];exact hz0) (by rw [List.length_replicate];simpa using hzs) hz1 hzvr
       rw [List.length_replicate] at hm1
       refine ⟨.tuple #[],.tup [],_,_,.inl ?_,.tup (vs:=[]) rfl (fun k y hk=>by simp at hk),hm1,by rw [List.length_set];exact t1,hk⟩
       rw [hs,hv]
       rcases Nat.eq_zero_or_pos len with h0|h0
       · subst h0
         have e0:Builtin.zeroCells v.cells 0= #[]:=by simp [Builtin.zeroCells]
         rw [e0] at hst
         simp [storeCells] at hst
         simp [Builtin.clear_,run_underlying ht]
         exact hst
       · have hst':(storeCells ⟨L.b,L.o+off*z'',none⟩ (Builtin.zeroCells v.cells len).toList).run P E.w= .ok () (E.w.setRow L.b cur.toArray):=hst
         cases len with
         | zero=>omega
         | succ n=>simp [Builtin.clear_,run_underlying ht,hzv,hst']
   · exact h.elim
 · exact h.elim
theorem aGN {id:Nat} {o:AO} (h:H[id]?=some o):H.set id o=H:=by
 apply List.ext_getElem?
 intro j
 by_cases hj:j=id
 · subst hj
   rw [List.getElem?_set_self (List.getElem?_eq_some_iff.1 h).1,h]
 · rw [List.getElem?_set_ne (by omega)]
theorem a2H {K:AV->List AO->Prop} {o:Oper} {t t2 el el2:TypeId} {args:Array Operand} {ts:Array TypeId} {s x:Operand} (ho:o.op= .call { callee:=.builtin .append,args:=args,argTypes:=ts }) (ha:args.toList=[s,x]) (hts:ts.toList=[t,t2])
 (ht:P.underlying t=some (.slice el)) (ht2:P.underlying t2=some (.slice el2)) (hi:(P.info? el).isSome=true)
 (hm:HM E H) (he:∀ x,E.VR H.length (a.eval x) (e x)) (h:bQ (.apin (P.cellsOf el) (P.bytesOf el) s x) e H K):WS P E H a o K:=by
 obtain ⟨ii,hii⟩:=Option.isSome_iff_exists.1 hi
 obtain ⟨args⟩:=args
 obtain ⟨ts⟩:=ts
 simp only at ha hts
 subst ha hts
 have hs:execOp a.eval o=(do pure (.value (<- Builtin.append_ #[t,t2] o.type #[a.eval s,a.eval x]))):=by
  simp only [execOp,ho,resolve,invoke,pure_bind,builtin,List.map_toArray,List.map_cons,List.map_nil]
 have hsv:=he s
 have hxv:=he x
 generalize hz:P.cellsOf el=z at *
 simp only [bQ] at h
 split at h
 · rename_i id z' off len m hes hmm
   obtain ⟨rfl,h⟩:=h
   rw [hes] at hsv
   obtain ⟨B,c2,hu,hlc2,hel2,hc2⟩:=fE hm hxv hmm
   split at h
   · rename_i z'' l hob
     obtain ⟨⟨rfl,hz0,hoff⟩,hk⟩:=h
     obtain ⟨hid,⟨A,hv,rfl,he0⟩|⟨L,c,hL,hLz,hv,hlen,hcap⟩⟩:=hsv.cN
     · have hm0:m=[]:=by
        apply List.eq_nil_of_length_eq_zero
        rcases hm.obj id _ hob with ⟨g1,g2⟩|⟨L,u,t',fz,g1,g2,g3,g4,_⟩
        · subst g2;have e0:([]:List AV).length=0:=rfl;omega
        · have:=he0 L g1
          have h5:l.length*z''<=off*z'':=by omega
          have:=Nat.le_of_mul_le_mul_right h5 hz0
          omega
       subst hm0
       have hset:H.set id (.arr z'' (l.take (off+0)++[]++l.drop (off+0+([]:List AV).length)))=H:=by
        have:l.take (off+0)++[]++l.drop (off+0+([]:List AV).length)=l:=by simp
        rw [this]
        exact aGN hob
       rw [hset] at hk
       refine ⟨.slice A 0 0,_,E,_,.inl ?_,.own0 hid he0,hm,Trans.refl _ _,hk⟩
       rw [hs,hv,hu]
       simp only [Sem.run_bind,List.length_nil,rE ht ht2 hii,Result.andThen_ok,Sem.run_pure]
     · rcases hm.obj id _ hob with ⟨g1,g2⟩|⟨L',u,t',fz,g1,g2,g3,g4,g5,g6,g7,g8,g9,g10,g11⟩
       · rw [hL] at g1;cases g1
       rw [hL] at g1
       cases g1
       have hlc:l.length<=off+c:=by
        rw [<- hcap] at g4
        exact Nat.le_of_mul_le_mul_right (by omega) hz0
       obtain ⟨ws,w1,w2,w3,w4⟩:=eA (P:=P) hm hxv hmm m.length (Nat.le_refl _)
       rw [List.take_length] at w4
       rw [hu] at w1
       obtain ⟨cur,hst,hm1,t1⟩:=uQ (P:=P) hm hob hL g2 g3 g4 g5 g6 g7 g8 g9 g10 g11 (off:=off+len) (ms:=m) hoff hel2 w2 w3 w4
       have ea:L.o+(off+len)*z''=L.o+off*z''+len*z'':=by rw [Nat.add_mul];omega
       rw [ea] at hst
       refine ⟨.slice (some ⟨L.b,L.o+off*z'',none⟩) (len+m.length) c,_,_,_,.inl ?_,?_,hm1,by rw [List.length_set];exact t1,hk⟩
       · rw [hs,hv,hu]
         have hroom:len+m.length<=c:=by omega
         have:=oK (P:=P) (ty:=o.type) ht ht2 hii hz w1 hroom hst
         simp only [Sem.run_bind,this,Result.andThen_ok,Sem.run_pure]
       · rw [List.length_set]
         exact .own hid hL hLz (by omega) hcap
   · exact h.elim
 · exact h.elim
theorem aKd {o:Oper} {t t2 el:TypeId} {kk k':IntKind} {z:Nat} {ii:TypeInfo} {x:AV} {vs:Value} {z0:AV} {l:List AV} {A:Option Addr} {c m:Nat} (ht:P.underlying t=some (.slice el)) (ht2:P.underlying t2=some (.int kk)) (hz:gC P el=some z0) (hii:P.info? el=some ii) (hzz:P.cellsOf el=z)
 (hm:HM E H) (hsv:E.VR H.length vs x) (hl:rdS H z x=some l) (hv:vs= .slice A l.length c) (hz0:z0.el z=true) (hb:(l.length+m)*P.bytesOf el<=2^47) (h63:l.length+m<2^63) (hgrow:c<l.length+m) :
 ∃ (us ws:List Value) (zc:Array Value),us.length=l.length*z/\ws.length=m*z/\zc.size=z/\(∀ k,k<zc.size->(zc.getD k undef).oneCell'=true)/\(∀ k y,(flat l)[k]?=some y->E.drew.VR H.length (us.getD k undef) y) /\
   (∀ k y,(flat (List.replicate m z0))[k]?=some y->E.drew.VR H.length (ws.getD k undef) y)/\(Builtin.append_ #[t,t2] o.type #[vs,.int k' (m:Int)]).run P E.w= .ok (.slice (some ⟨E.w.heap.size,0,none⟩) (l.length+m) (grownCap E.w (l.length+m) c el))
     (E.w.drew.alloc (.cells (us.toArray++ws.toArray++Builtin.zeroCells zc (grownCap E.w (l.length+m) c el-(l.length+m))) el)):=by
 have hwr:IntKind.i64.wrap (m:Int)=(m:Int):=by simp [IntKind.wrap,IntKind.signed,IntKind.bits];omega
 have hsz:∀ w,(sizeOf el).run P w= .ok z w:=fun w=>by rw [run_sizeOf _ hii,hzz]
 have hby:∀ w,(typeInfo el).run P w= .ok ii w:=fun w=>run_typeInfo _ hii
 have hbb:ii.bytes=P.bytesOf el:=by simp [Program.bytesOf,hii]
 have hmb:m*P.bytesOf el<=(l.length+m)*P.bytesOf el:=Nat.mul_le_mul_right _ (by omega)
 have h48:¬ (281474976710656<(m:Int)*(ii.bytes:Int)):=by
  rw [hbb,<- Int.natCast_mul]
  omega
 have hneg:¬ ((m:Int)<0):=by omega
 obtain ⟨v,hzv,hvs,hvo,hzs,hz1,hzvr⟩:=pF hz hz0 hm m
 rw [hv]
 rw [hv] at hsv
 have hmd:=j6 hm
 have hsd:E.drew.VR H.length (.slice A l.length c) x:=hsv.trans hm cC
 obtain ⟨us,u1,u2,u3,u4⟩:=eA (P:=P) hmd hsd hl l.length (Nat.le_refl _)
 rw [List.take_length] at u4
 refine ⟨us,(Builtin.zeroCells v.cells m).toList,v.cells,u2,by simpa using hzs,hvs,hvo,u4,fun k y hk=>(hzvr k y hk).trans hm cC,?_⟩
 have hn:¬ (l.length+m<=c):=by omega
 have h63':¬ (9223372036854775807<((l.length:Int)+(m:Int))):=by omega
 have h48':¬ (281474976710656<Builtin.nextslicecap (l.length+m) c*ii.bytes):=by
  have:=growslice_fits (need:=l.length+m) (old:=c) (bytes:=ii.bytes) (by omega) (by rw [hbb];omega)
  omega
 simp [Builtin.append_,run_underlying ht,run_underlying ht2,hsz,hby,hwr,asInt,asIntOf,h48,hneg,hn,h63',h48',Question.forced,newRow,grownCap]
 have u1':(Builtin.firstCells z l.length (.slice A l.length c)).run P E.w.drew= .ok us.toArray E.w.drew:=u1
 rw [u1']
 simp only [Result.andThen_ok]
 have e9:∀ k,us.toArray++(Builtin.zeroCells v.cells m++Builtin.zeroCells v.cells k)=(us++(Builtin.zeroCells v.cells m).toList).toArray++Builtin.zeroCells v.cells k:=fun k=>by
  apply Array.ext'
  simp [List.append_assoc]
 by_cases h0:m*z=0
 · have e0:Builtin.zeroCells v.cells m= #[]:=Array.eq_empty_of_size_eq_zero (by rw [hzs,h0])
   rw [if_pos h0,hzv]
   simp only [Result.andThen_ok]
   rw [e0]
   simp
 · rw [if_neg h0,hzv]
   simp only [Result.andThen_ok]
   rw [hzv]
   simp only [Result.andThen_ok]
   rw [e9]
   simp
def aA9 (z bytes:Nat) (zero s x g:AV) (H:List AO) (K:AV->List AO->Prop):Prop :=
 match s,x,g with
 | .own id z1 off len,.int _ n,.ownx id2 z2 off2 _ c=>(z1=z/\z2=z/\id2=id/\zero.el z=true)/\(0<n/\off2+c<off+len+n.toNat)/\match H[id]? with
   | some (.arr z3 l)=>(z3=z/\0<z/\off+len<=l.length)/\((len+n.toNat)*bytes<=2^47/\len+n.toNat<2^63)/\K (.own H.length z 0 (len+n.toNat)) (H++[.arr z ((l.drop off).take len++List.replicate n.toNat zero)])
   | _=>False
 | _,_,_=>False
theorem aEU {K:AV->List AO->Prop} {o:Oper} {t t2 el:TypeId} {kk:IntKind} {args:Array Operand} {ts:Array TypeId} {s x g:Operand} {z0:AV} (ho:o.op= .call { callee:=.builtin .append,args:=args,argTypes:=ts }) (ha:args.toList=[s,x]) (hts:ts.toList=[t,t2])
 (ht:P.underlying t=some (.slice el)) (ht2:P.underlying t2=some (.int kk)) (hz:gC P el=some z0) (hi:(P.info? el).isSome=true)
 (hm:HM E H) (he:∀ x,E.VR H.length (a.eval x) (e x)) (h:aA9 (P.cellsOf el) (P.bytesOf el) z0 (e s) (e x) (e g) H K):WS P E H a o K:=by
 obtain ⟨ii,hii⟩:=Option.isSome_iff_exists.1 hi
 obtain ⟨args⟩:=args
 obtain ⟨ts⟩:=ts
 simp only at ha hts
 subst ha hts
 have hs:execOp a.eval o=(do pure (.value (<- Builtin.append_ #[t,t2] o.type #[a.eval s,a.eval x]))):=by
  simp only [execOp,ho,resolve,invoke,pure_bind,builtin,List.map_toArray,List.map_cons,List.map_nil]
 have hsv:=he s
 have hxv:=he x
 have hgv:=he g
 generalize hzz:P.cellsOf el=z at *
 unfold aA9 at h
 split at h
 · rename_i id z1 off len k n id2 z2 off2 len2 c hes hex heg
   obtain ⟨⟨rfl,rfl,rfl,hz0⟩,⟨hn0,hgr⟩,h⟩:=h
   split at h
   · rename_i z3 l hob
     obtain ⟨⟨rfl,hzp,hoff⟩,⟨hb,h63⟩,hk⟩:=h
     rw [hes] at hsv
     rw [hex] at hxv
     rw [heg] at hgv
     obtain ⟨m,rfl⟩:∃ m:Nat,n=m:=⟨n.toNat,by omega⟩
     rw [Int.toNat_natCast] at hgr hb h63 hk
     have hll:((l.drop off).take len).length=len:=by simp;omega
     have hrd:rdS H z3 (.own id2 z3 off len)=some ((l.drop off).take len):=by simp [rdS,hob,hoff]
     obtain ⟨A,cs,hv,hlc,hel,_⟩:=fE hm hsv hrd
     have hcs:cs<len+m:=by
      obtain ⟨_,q1⟩:=hsv.cN
      obtain ⟨_,q2⟩:=hgv.xW
      rcases q1 with ⟨A',hv',h0,he0⟩|⟨L,c',hL,hLz,hv',hlen',hcap'⟩
      · rw [hv] at hv'
        simp only [Value.slice.injEq] at hv'
        omega
      · rw [hv] at hv'
        simp only [Value.slice.injEq] at hv'
        obtain ⟨_,_,rfl⟩:=hv'
        rcases q2 with ⟨A2,_,_,rfl,he2⟩|⟨L2,hL2,hLz2,_,hlen2,hcap2⟩
        · have h1:=he2 L hL
          rw [<- hcap'] at h1
          have:=Nat.le_of_mul_le_mul_right (show (off+cs)*z3<=off2*z3 by omega) hzp
          omega
        · rw [hL] at hL2
          cases hL2
          have:=Nat.le_of_mul_le_mul_right (show (off+cs)*z3<=(off2+c)*z3 by omega) hzp
          omega
     rw [hll] at hv
     obtain ⟨us,ws,zc,u2,w2,hzc,hzc1,u4,w4,hr⟩:=aKd (P:=P) (o:=o) (l:=(l.drop off).take len) (m:=m) (c:=cs) (A:=A) (kk:=kk) (k':=k) ht ht2 hz hii hzz hm hsv hrd (by rw [hll];exact hv) hz0 (by rw [hll];exact hb) (by rw [hll];exact h63) (by rw [hll];exact hcs)
     rw [hll] at hr
     have hel2:∀ q∈List.replicate m z0,q.el z3=true:=fun q hq=>by rw [List.eq_of_mem_replicate hq];exact hz0
     obtain ⟨E',hw,r1,r2,r3⟩:=vF (j6 hm) (el:=el) (zc:=zc) u2 (by rw [List.length_replicate];exact w2) hzc (by rw [hll,List.length_replicate];exact grownCap_ge E.w (len+m) cs el) (fun q hq=>(List.mem_append.1 hq).elim (hel q) (hel2 q)) u4 w4 hzc1
     rw [hll,List.length_replicate] at r1 hw
     refine ⟨_,_,E',_,.inl ?_,r1,r2,(cC (H:=H)).trans r3,hk⟩
     rw [hs,hw,hxv.dB]
     simp only [Sem.run_bind,hr,Result.andThen_ok,Sem.run_pure]
     rfl
   · exact h.elim
 · exact h.elim
end sound
mutual
def AV.ren (ρ:Nat->Nat):AV->AV
 | .own id z o l=>.own (ρ id) z o l
 | .ref id i o=>.ref (ρ id) i o
 | .ownx id z o l c=>.ownx (ρ id) z o l c
 | .agg cs=>.agg (AV.lG ρ cs)
 | .tup vs=>.tup (AV.lG ρ vs)
 | .fn f a b=>.fn f (AV.lG ρ a) (AV.lG ρ b)
 | .ifc t x=>.ifc t (AV.ren ρ x)
 | .int k n=>.int k n
 | .bool b=>.bool b
 | .str s=>.str s
 | .nilp=>.nilp
 | .aD=>.aD
 | .nilf=>.nilf
 | .nili=>.nili
 | .cD=>.cD
 | .sl t z l=>.sl t z l
 | .ip t cs=>.ip t cs
 | .any=>.any
 | .top=>.top
def AV.lG (ρ:Nat->Nat):List AV->List AV
 | []=>[]
 | a :: l=>AV.ren ρ a :: AV.lG ρ l
end
mutual
def AV.bel (n:Nat):AV->Bool
 | .own id _ _ _=>decide (id<n)
 | .ref id _ _=>decide (id<n)
 | .ownx id _ _ _ _=>decide (id<n)
 | .agg cs=>AV.nM n cs
 | .tup vs=>AV.nM n vs
 | .fn _ a b=>AV.nM n a&&AV.nM n b
 | .ifc _ x=>AV.bel n x
 | _=>true
def AV.nM (n:Nat):List AV->Bool
 | []=>true
 | a :: l=>AV.bel n a&&AV.nM n l
end
theorem AV.eW (ρ:Nat->Nat):∀ l:List AV,(AV.lG ρ l).length=l.length
 | []=>rfl
 | a :: l=>by simp [AV.lG,AV.eW ρ l]
theorem AV.dI (ρ:Nat->Nat):∀ (l:List AV) (k:Nat),(AV.lG ρ l)[k]?=(l[k]?).map (AV.ren ρ)
 | [],k=>by simp [AV.lG]
 | a :: l,0=>by simp [AV.lG]
 | a :: l,k+1=>by simp [AV.lG,AV.dI ρ l k]
theorem AV.dE {n:Nat}:∀ {l:List AV} {k:Nat} {y:AV},AV.nM n l=true->l[k]?=some y->AV.bel n y=true
 | [],k,y,_,h=>by simp at h
 | a :: l,0,y,hb,h=>by
   simp only [AV.nM,Bool.and_eq_true] at hb
   simp at h
   subst h
   exact hb.1
 | a :: l,k+1,y,hb,h=>by
   simp only [AV.nM,Bool.and_eq_true] at hb
   exact AV.dE hb.2 (by simpa using h)
theorem AV.rL {ρ:Nat->Nat} {y:AV}:(y.ren ρ).one=y.one:=by cases y<;>rfl
theorem AV.aG3 {ρ:Nat->Nat} {y:AV} (h:y.mA=true):y.ren ρ=y:=by cases y<;>simp_all [AV.mA,AV.ren]
theorem AV.pT {ρ:Nat->Nat} {y:AV} (h:y.ok=true):y.ren ρ=y:=by
 cases y<;>simp_all [AV.ok,AV.ren,AV.lG]
 exact AV.aG3 h
theorem AV.aJ6 {n:Nat} {y:AV} (h:y.mA=true):y.bel n=true:=by cases y<;>simp_all [AV.mA,AV.bel]
theorem AV.lQ {n:Nat} {y:AV} (h:y.ok=true):y.bel n=true:=by
 cases y<;>simp_all [AV.ok,AV.bel,AV.nM]
 exact AV.aJ6 h
theorem mN {z:Nat} {l:List AV} (h:∀ a∈l,a.el z=true) {k:Nat} {y:AV} (hk:(flat l)[k]?=some y):y.ok=true:=by
 obtain ⟨a,ha,hy⟩:=List.mem_flatMap.1 (List.mem_of_getElem? hk)
 have:=h a ha
 simp only [AV.el,Bool.and_eq_true,List.all_eq_true] at this
 exact this.2 y hy
section ren
variable {w:World} {S S':Bool->Nat->Prop} {μ μ':Nat->Option Loc} {n n' m:Nat} {ρ:Nat->Nat}
theorem VR.ren {x:Value} {y:AV} (h:VR w S μ n x y) (hS:∀ t b,S t b->S' t b):(y.bel m=true)->(∀ id,id<m->id<n->ρ id<n'/\μ' (ρ id)=μ id)->VR w S' μ' n' x (y.ren ρ):=by
 intro hb hμ
 induction h with
 | int=>exact .int
 | bool=>exact .bool
 | str h=>exact .str h
 | nilp=>exact .nilp
 | aD=>exact .aD
 | nilf=>exact .nilf
 | nili=>exact .nili
 | cD=>exact .cD
 | sl0=>exact .sl0
 | sl u hm hlen hS1 hel hc1 _ ih =>
   refine .sl u hm hlen (hS _ _ hS1) hel hc1 fun k y hk=>?_
   have hok:=mN hel hk
   have:=ih k y hk (AV.lQ hok)
   rwa [AV.pT hok] at this
 | own0 h he=>simp only [AV.bel,decide_eq_true_eq] at hb;exact .own0 (hμ _ hb h).1 fun L hL=>he L ((hμ _ hb h).2.symm.trans hL)
 | own h hL hz hlen hcap=>simp only [AV.bel,decide_eq_true_eq] at hb;exact .own (hμ _ hb h).1 ((hμ _ hb h).2.trans hL) hz hlen hcap
 | ownx0 h he=>simp only [AV.bel,decide_eq_true_eq] at hb;exact .ownx0 (hμ _ hb h).1 fun L hL=>he L ((hμ _ hb h).2.symm.trans hL)
 | ownx h hL hz hlen hcap=>simp only [AV.bel,decide_eq_true_eq] at hb;exact .ownx (hμ _ hb h).1 ((hμ _ hb h).2.trans hL) hz hlen hcap
 | ref h hL=>simp only [AV.bel,decide_eq_true_eq] at hb;exact .ref (hμ _ hb h).1 ((hμ _ hb h).2.trans hL)
 | ip u hS1 hok hc1 _ ih =>
   refine .ip u (hS _ _ hS1) hok hc1 fun k y hk=>?_
   have hy:=hok y (List.mem_of_getElem? hk)
   have:=ih k y hk (AV.lQ hy)
   rwa [AV.pT hy] at this
 | @agg vs cs hl h1 _ ih =>
   simp only [AV.bel] at hb
   refine .agg (by rw [AV.eW];exact hl) (fun a ha=>?_) (fun k y hk=>?_)
   · obtain ⟨k,hk⟩:=List.mem_iff_getElem?.1 ha
     rw [AV.dI] at hk
     cases hc:cs[k]? with
     | none=>rw [hc] at hk;simp at hk
     | some q =>
       rw [hc] at hk
       simp only [Option.map_some,Option.some.injEq] at hk
       subst hk
       rw [AV.rL]
       exact h1 q (List.mem_of_getElem? hc)
   · rw [AV.dI] at hk
     cases hc:cs[k]? with
     | none=>rw [hc] at hk;simp at hk
     | some q =>
       rw [hc] at hk
       simp only [Option.map_some,Option.some.injEq] at hk
       subst hk
       exact ih k q hc (AV.dE hb hc)
 | @tup vs cs hl _ ih =>
   simp only [AV.bel] at hb
   refine .tup (by rw [AV.eW];exact hl) (fun k y hk=>?_)
   rw [AV.dI] at hk
   cases hc:cs[k]? with
   | none=>rw [hc] at hk;simp at hk
   | some q =>
     rw [hc] at hk
     simp only [Option.map_some,Option.some.injEq] at hk
     subst hk
     exact ih k q hc (AV.dE hb hc)
 | @fn f as bs cs ds hl hk _ _ ih1 ih2 =>
   simp only [AV.bel,Bool.and_eq_true] at hb
   refine .fn (by rw [AV.eW];exact hl) (by rw [AV.eW];exact hk) (fun k y hk=>?_) (fun k y hk=>?_)
   · rw [AV.dI] at hk
     cases hc:cs[k]? with
     | none=>rw [hc] at hk;simp at hk
     | some q =>
       rw [hc] at hk
       simp only [Option.map_some,Option.some.injEq] at hk
       subst hk
       exact ih1 k q hc (AV.dE hb.1 hc)
   · rw [AV.dI] at hk
     cases hc:ds[k]? with
     | none=>rw [hc] at hk;simp at hk
     | some q =>
       rw [hc] at hk
       simp only [Option.map_some,Option.some.injEq] at hk
       subst hk
       exact ih2 k q hc (AV.dE hb.2 hc)
 | ifc _ ih=>simp only [AV.bel] at hb;exact .ifc (ih hb)
 | any h=>exact .any h
 | top=>exact .top
end ren
def AO.ren (ρ:Nat->Nat):AO->AO
 | .dead=>.dead
 | .box cs=>.box (AV.lG ρ cs)
 | .arr z l=>.arr z l
def AO.bel (n:Nat):AO->Bool
 | .box cs=>AV.nM n cs
 | _=>true
theorem AO.oZ {ρ:Nat->Nat} {o:AO}:(o.ren ρ).live=o.live:=by cases o<;>rfl
section objs
variable {E E':Env} {n n' m:Nat} {ρ:Nat->Nat} {id:Nat} {o:AO}
theorem aFy (h:E.holds n id o) (hb:o.bel m=true) (hw:E'.w.heap=E.w.heap) (hμ0:E'.μ (ρ id)=E.μ id) (hO:∀ L,E.μ id=some L->E.O L.b->E'.O L.b)
 (hv:∀ x y,E.VR n x y->y.bel m=true->E'.VR n' x (y.ren ρ)):E'.holds n' (ρ id) (o.ren ρ):=by
 cases o with
 | dead=>trivial
 | box cs =>
   obtain ⟨L,u,t,fz,h1,h2,h3,h4,h5,h6,h7,h8,h9⟩:=h
   refine ⟨L,u,t,fz,hμ0.trans h1,hO L h1 h2,h3,by rw [AV.eW];exact h4,by rw [hw];exact h5,h6,h7,fun a ha=>?_,fun k y hk=>?_⟩
   · obtain ⟨k,hk⟩:=List.mem_iff_getElem?.1 ha
     rw [AV.dI] at hk
     cases hc:cs[k]? with
     | none=>rw [hc] at hk;simp at hk
     | some q =>
       rw [hc] at hk
       simp only [Option.map_some,Option.some.injEq] at hk
       subst hk
       rw [AV.rL]
       exact h8 q (List.mem_of_getElem? hc)
   · rw [AV.dI] at hk
     cases hc:cs[k]? with
     | none=>rw [hc] at hk;simp at hk
     | some q =>
       rw [hc] at hk
       simp only [Option.map_some,Option.some.injEq] at hk
       subst hk
       exact hv _ _ (h9 k q hc) (AV.dE hb hc)
 | arr z l =>
   rcases h with ⟨h1,h2⟩|⟨L,u,t,fz,h1,h2,h3,h4,h5,h6,h7,h8,h9,h10⟩
   · exact .inl ⟨hμ0.trans h1,h2⟩
   · refine .inr ⟨L,u,t,fz,hμ0.trans h1,hO L h1 h2,h3,h4,by rw [hw];exact h5,h6,h7,h8,fun k y hk=>?_,h10⟩
     have hok:=mN h8 hk
     have:=hv _ _ (h9 k y hk) (AV.lQ hok)
     rwa [AV.pT hok] at this
end objs
mutual
def AV.ro (ρ:Nat->Option Nat):AV->AV
 | .own id z o l=>match ρ id with
   | some j=>.own j z o l
   | none=>.aD
 | .ref id i o=>.ref ((ρ id).getD 0) i o
 | .ownx id z o l c=>.ownx ((ρ id).getD 0) z o l c
 | .agg cs=>.agg (AV.roL ρ cs)
 | .tup vs=>.tup (AV.roL ρ vs)
 | .fn f a b=>.fn f (AV.roL ρ a) (AV.roL ρ b)
 | .ifc t x=>.ifc t (AV.ro ρ x)
 | .int k n=>.int k n
 | .bool b=>.bool b
 | .str s=>.str s
 | .nilp=>.nilp
 | .aD=>.aD
 | .nilf=>.nilf
 | .nili=>.nili
 | .cD=>.cD
 | .sl t z l=>.sl t z l
 | .ip t cs=>.ip t cs
 | .any=>.any
 | .top=>.top
def AV.roL (ρ:Nat->Option Nat):List AV->List AV
 | []=>[]
 | a :: l=>AV.ro ρ a :: AV.roL ρ l
end
mutual
def AV.bo (ρ:Nat->Option Nat) (n:Nat):AV->Bool
 | .own id _ _ l=>decide (id<n)&&((ρ id).isSome||l==0)
 | .ref id _ _=>decide (id<n)&&(ρ id).isSome
 | .ownx id _ _ _ _=>decide (id<n)&&(ρ id).isSome
 | .agg cs=>AV.boL ρ n cs
 | .tup vs=>AV.boL ρ n vs
 | .fn _ a b=>AV.boL ρ n a&&AV.boL ρ n b
 | .ifc _ x=>AV.bo ρ n x
 | _=>true
def AV.boL (ρ:Nat->Option Nat) (n:Nat):List AV->Bool
 | []=>true
 | a :: l=>AV.bo ρ n a&&AV.boL ρ n l
end
section ro
variable {ρ:Nat->Option Nat}
theorem AV.mX:∀ l:List AV,(AV.roL ρ l).length=l.length
 | []=>rfl
 | a :: l=>by simp [AV.roL,AV.mX l]
theorem AV.j0:∀ (l:List AV) (k:Nat),(AV.roL ρ l)[k]?=(l[k]?).map (AV.ro ρ)
 | [],k=>by simp [AV.roL]
 | a :: l,0=>by simp [AV.roL]
 | a :: l,k+1=>by simp [AV.roL,AV.j0 l k]
theorem AV.nF {n:Nat}:∀ {l:List AV} {k:Nat} {y:AV},AV.boL ρ n l=true->l[k]?=some y->AV.bo ρ n y=true
 | [],k,y,_,h=>by simp at h
 | a :: l,0,y,hb,h=>by
   simp only [AV.boL,Bool.and_eq_true] at hb
   simp at h
   subst h
   exact hb.1
 | a :: l,k+1,y,hb,h=>by
   simp only [AV.boL,Bool.and_eq_true] at hb
   exact AV.nF hb.2 (by simpa using h)
theorem AV.aHu {y:AV}:(y.ro ρ).one=y.one:=by
 cases y<;>try rfl
 simp only [AV.ro]
 split<;>rfl
theorem AV.aK3 {y:AV} (h:y.mA=true):y.ro ρ=y:=by cases y<;>simp_all [AV.mA,AV.ro]
theorem AV.aGZ {y:AV} (h:y.ok=true):y.ro ρ=y:=by
 cases y<;>simp_all [AV.ok,AV.ro,AV.roL]
 exact AV.aK3 h
theorem AV.aNy {n:Nat} {y:AV} (h:y.mA=true):y.bo ρ n=true:=by cases y<;>simp_all [AV.mA,AV.bo]
theorem AV.aJ1 {n:Nat} {y:AV} (h:y.ok=true):y.bo ρ n=true:=by
 cases y<;>simp_all [AV.ok,AV.bo,AV.boL]
 exact AV.aNy h
theorem aGY {y:AV} {j z o l:Nat} (h:AV.own j z o l=y.ro ρ):∃ id,y= .own id z o l/\ρ id=some j:=by
 cases y<;>simp only [AV.ro,reduceCtorEq] at h
 split at h
 · rename_i k hk
   simp only [AV.own.injEq] at h
   obtain ⟨rfl,rfl,rfl,rfl⟩:=h
   exact ⟨_,rfl,hk⟩
 · cases h
theorem aK4 {y:AV} (h:AV.aD=y.ro ρ):y= .aD∨∃ id z o l,y= .own id z o l/\ρ id=none:=by
 cases y<;>simp only [AV.ro,reduceCtorEq] at h
 · exact .inl rfl
 · split at h
   · cases h
   · rename_i hk
     exact .inr ⟨_,_,_,_,rfl,hk⟩
variable {w:World} {S S':Bool->Nat->Prop} {μ μ':Nat->Option Loc} {n n' m:Nat}
theorem VR.aUb {x:Value} {y':AV} (h:VR w S μ n x y') (hS:∀ t b,S t b->S' t b):∀ y:AV,y'=y.ro ρ->y.bo ρ m=true->(∀ id j,ρ id=some j->μ' id=μ j)->(∀ id,ρ id=none->μ' id=none)->VR w S' μ' m x y:=by
 have no:∀ {y y':AV},y'=y.ro ρ->(∀ id z o l,y'≠ .own id z o l)->y'≠ .aD->∀ id z o l,y≠ .own id z o l:=fun {y y'} e h1 h2 id z o l hy=>by
  subst hy
  simp only [AV.ro] at e
  split at e
  · exact h1 _ _ _ _ e
  · exact h2 e
 induction h with
 | int=>intro y e hb hμ hμn;have:=no e (by simp) (by simp);cases y<;>(try exact absurd rfl (this _ _ _ _))<;>simp [AV.ro] at e;obtain ⟨rfl,rfl⟩:=e;exact .int
 | bool=>intro y e hb hμ hμn;have:=no e (by simp) (by simp);cases y<;>(try exact absurd rfl (this _ _ _ _))<;>simp [AV.ro] at e;subst e;exact .bool
 | str h=>intro y e hb hμ hμn;have:=no e (by simp) (by simp);cases y<;>(try exact absurd rfl (this _ _ _ _))<;>simp [AV.ro] at e;subst e;exact .str h
 | nilp=>intro y e hb hμ hμn;have:=no e (by simp) (by simp);cases y<;>(try exact absurd rfl (this _ _ _ _))<;>simp [AV.ro] at e;exact .nilp
 | aD =>
   intro y e hb hμ hμn
   rcases aK4 e with rfl|⟨id,z,o,l,rfl,hk⟩
   · exact .aD
   · simp only [AV.bo,hk,Option.isSome_none,Bool.false_or,Bool.and_eq_true,decide_eq_true_eq,beq_iff_eq] at hb
     rw [hb.2]
     exact .own0 hb.1 fun L hL=>by rw [hμn _ hk] at hL;cases hL
 | nilf=>intro y e hb hμ hμn;have:=no e (by simp) (by simp);cases y<;>(try exact absurd rfl (this _ _ _ _))<;>simp [AV.ro] at e;exact .nilf
 | nili=>intro y e hb hμ hμn;have:=no e (by simp) (by simp);cases y<;>(try exact absurd rfl (this _ _ _ _))<;>simp [AV.ro] at e;exact .nili
 | cD=>intro y e hb hμ hμn;have:=no e (by simp) (by simp);cases y<;>(try exact absurd rfl (this _ _ _ _))<;>simp [AV.ro] at e;exact .cD
 | sl0=>intro y e hb hμ hμn;have:=no e (by simp) (by simp);cases y<;>(try exact absurd rfl (this _ _ _ _))<;>simp [AV.ro] at e;obtain ⟨rfl,rfl,rfl⟩:=e;exact .sl0
 | sl u hm hlen hS1 hel hc1 _ ih =>
   intro y e hb hμ hμn
   have:=no e (by simp) (by simp)
   cases y<;>(try exact absurd rfl (this _ _ _ _))<;>simp [AV.ro] at e
   obtain ⟨rfl,rfl,rfl⟩:=e
   refine .sl u hm hlen (hS _ _ hS1) hel hc1 fun k y hk=>?_
   have hok:=mN hel hk
   exact ih k y hk y (AV.aGZ hok).symm (AV.aJ1 hok) hμ hμn
 | own0 h he =>
   intro y e hb hμ hμn
   obtain ⟨id,rfl,hk⟩:=aGY e
   simp only [AV.bo,Bool.and_eq_true,decide_eq_true_eq] at hb
   exact .own0 hb.1 fun L hL=>he L ((hμ _ _ hk).symm.trans hL)
 | own h hL hz hlen hcap =>
   intro y e hb hμ hμn
   obtain ⟨id,rfl,hk⟩:=aGY e
   simp only [AV.bo,Bool.and_eq_true,decide_eq_true_eq] at hb
   exact .own hb.1 ((hμ _ _ hk).trans hL) hz hlen hcap
 | ownx0 h he =>
   intro y e hb hμ hμn
   have:=no e (by simp) (by simp)
   cases y<;>(try exact absurd rfl (this _ _ _ _))<;>simp [AV.ro] at e
   obtain ⟨rfl,rfl,rfl,rfl,rfl⟩:=e
   simp only [AV.bo,Bool.and_eq_true,decide_eq_true_eq] at hb
   obtain ⟨j,hj⟩:=Option.isSome_iff_exists.1 hb.2
   rw [hj] at he
   exact .ownx0 hb.1 fun L hL=>he L ((hμ _ _ hj).symm.trans hL)
 | ownx h hL hz hlen hcap =>
   intro y e hb hμ hμn
   have:=no e (by simp) (by simp)
   cases y<;>(try exact absurd rfl (this _ _ _ _))<;>simp [AV.ro] at e
   obtain ⟨rfl,rfl,rfl,rfl,rfl⟩:=e
   simp only [AV.bo,Bool.and_eq_true,decide_eq_true_eq] at hb
   obtain ⟨j,hj⟩:=Option.isSome_iff_exists.1 hb.2
   rw [hj] at hL
   exact .ownx hb.1 ((hμ _ _ hj).trans hL) hz hlen hcap
 | ref h hL =>
   intro y e hb hμ hμn
   have:=no e (by simp) (by simp)
   cases y<;>(try exact absurd rfl (this _ _ _ _))<;>simp [AV.ro] at e
   obtain ⟨rfl,rfl,rfl⟩:=e
   simp only [AV.bo,Bool.and_eq_true,decide_eq_true_eq] at hb
   obtain ⟨j,hj⟩:=Option.isSome_iff_exists.1 hb.2
   rw [hj] at hL
   exact .ref hb.1 ((hμ _ _ hj).trans hL)
 | ip u hS1 hok hc1 _ ih =>
   intro y e hb hμ hμn
   have:=no e (by simp) (by simp)
   cases y<;>(try exact absurd rfl (this _ _ _ _))<;>simp [AV.ro] at e
   obtain ⟨rfl,rfl⟩:=e
   refine .ip u (hS _ _ hS1) hok hc1 fun k y hk=>?_
   have hy:=hok y (List.mem_of_getElem? hk)
   exact ih k y hk y (AV.aGZ hy).symm (AV.aJ1 hy) hμ hμn
 | agg hl h1 _ ih =>
   intro y e hb hμ hμn
   have:=no e (by simp) (by simp)
   cases y<;>(try exact absurd rfl (this _ _ _ _))<;>simp [AV.ro] at e
   rename_i cs'
   subst e
   simp only [AV.bo] at hb
   refine .agg (by rw [AV.mX] at hl;exact hl) (fun a ha=>?_) (fun k y hk=>ih k (y.ro ρ) (by rw [AV.j0,hk];rfl) y rfl (AV.nF hb hk) hμ hμn)
   obtain ⟨k,hk⟩:=List.mem_iff_getElem?.1 ha
   rw [<- AV.aHu (ρ:=ρ)]
   exact h1 _ (List.mem_of_getElem? (i:=k) (by rw [AV.j0,hk];rfl))
 | tup hl _ ih =>
   intro y e hb hμ hμn
   have:=no e (by simp) (by simp)
   cases y<;>(try exact absurd rfl (this _ _ _ _))<;>simp [AV.ro] at e
   subst e
   simp only [AV.bo] at hb
   exact .tup (by rw [AV.mX] at hl;exact hl) (fun k y hk=>ih k (y.ro ρ) (by rw [AV.j0,hk];rfl) y rfl (AV.nF hb hk) hμ hμn)
 | fn hl hk _ _ ih1 ih2 =>
   intro y e hb hμ hμn
   have:=no e (by simp) (by simp)
   cases y<;>(try exact absurd rfl (this _ _ _ _))<;>simp [AV.ro] at e
   obtain ⟨rfl,rfl,rfl⟩:=e
   simp only [AV.bo,Bool.and_eq_true] at hb
   exact .fn (by rw [AV.mX] at hl;exact hl) (by rw [AV.mX] at hk;exact hk) (fun k y hk=>ih1 k (y.ro ρ) (by rw [AV.j0,hk];rfl) y rfl (AV.nF hb.1 hk) hμ hμn)
    (fun k y hk=>ih2 k (y.ro ρ) (by rw [AV.j0,hk];rfl) y rfl (AV.nF hb.2 hk) hμ hμn)
 | ifc _ ih =>
   intro y e hb hμ hμn
   have:=no e (by simp) (by simp)
   cases y<;>(try exact absurd rfl (this _ _ _ _))<;>simp [AV.ro] at e
   obtain ⟨rfl,rfl⟩:=e
   simp only [AV.bo] at hb
   exact .ifc (ih _ rfl hb hμ hμn)
 | any h=>intro y e hb hμ hμn;have:=no e (by simp) (by simp);cases y<;>(try exact absurd rfl (this _ _ _ _))<;>simp [AV.ro] at e;exact .any h
 | top=>intro y e hb hμ hμn;have:=no e (by simp) (by simp);cases y<;>(try exact absurd rfl (this _ _ _ _))<;>simp [AV.ro] at e;exact .top
end ro
def AO.ro (ρ:Nat->Option Nat):AO->AO
 | .dead=>.dead
 | .box cs=>.box (AV.roL ρ cs)
 | .arr z l=>.arr z l
def AO.bo (ρ:Nat->Option Nat) (n:Nat):AO->Bool
 | .box cs=>AV.boL ρ n cs
 | _=>true
theorem AO.aBI {ρ:Nat->Option Nat} {o:AO}:(o.ro ρ).live=o.live:=by cases o<;>rfl
def AO.empty:AO->Bool
 | .arr _ []=>true
 | _=>false
section objs
variable {E E':Env} {n n' m j:Nat} {ρ:Nat->Option Nat} {id:Nat} {o:AO}
theorem tC (h:E.holds n j (o.ro ρ)) (hb:o.bo ρ m=true) (hw:E'.w.heap=E.w.heap) (hμ0:E'.μ id=E.μ j) (hO:∀ L,E.μ j=some L->E.O L.b->E'.O L.b)
 (hv:∀ x y,E.VR n x (y.ro ρ)->y.bo ρ m=true->E'.VR n' x y):E'.holds n' id o:=by
 cases o with
 | dead=>trivial
 | box cs =>
   obtain ⟨L,u,t,fz,h1,h2,h3,h4,h5,h6,h7,h8,h9⟩:=h
   rw [AV.mX] at h4
   refine ⟨L,u,t,fz,hμ0.trans h1,hO L h1 h2,h3,h4,by rw [hw];exact h5,h6,h7,fun a ha=>?_,fun k y hk=>hv _ _ (h9 k _ (by rw [AV.j0,hk];rfl)) (AV.nF hb hk)⟩
   obtain ⟨k,hk⟩:=List.mem_iff_getElem?.1 ha
   rw [<- AV.aHu (ρ:=ρ)]
   exact h8 _ (List.mem_of_getElem? (i:=k) (by rw [AV.j0,hk];rfl))
 | arr z l =>
   rcases h with ⟨h1,h2⟩|⟨L,u,t,fz,h1,h2,h3,h4,h5,h6,h7,h8,h9,h10⟩
   · exact .inl ⟨hμ0.trans h1,h2⟩
   · refine .inr ⟨L,u,t,fz,hμ0.trans h1,hO L h1 h2,h3,h4,by rw [hw];exact h5,h6,h7,h8,fun k y hk=>?_,h10⟩
     have hok:=mN h8 hk
     exact hv _ _ (by rw [AV.aGZ hok];exact h9 k y hk) (AV.aJ1 hok)
end objs
structure Part (ρ:Nat->Option Nat) (H H1:List AO):Prop where
 inj:∀ i j k,i<H1.length->j<H1.length->ρ i=some k->ρ j=some k->i=j
 is:∀ (id:Nat) (o:AO),H1[id]?=some o->(∃ j,ρ id=some j/\H[j]?=some (o.ro ρ))∨(ρ id=none/\o.empty=true)
 bo:∀ (id:Nat) (o:AO),H1[id]?=some o->o.bo ρ H1.length=true
def Env.part (E:Env) (ρ:Nat->Option Nat):Env:=⟨E.w,E.S,fun id=>(ρ id).bind E.μ,E.O⟩
theorem mZ {E:Env} {ρ:Nat->Option Nat} {id j:Nat} (h:ρ id=some j):(E.part ρ).μ id=E.μ j:=by simp [Env.part,h]
theorem aMU {E:Env} {ρ:Nat->Option Nat} {H H1:List AO} (hm:HM E H) (h:Part ρ H H1):HM (E.part ρ) H1 where
 obj:=fun id o ho=>by
  rcases h.is id o ho with ⟨j,hj,hH⟩|⟨hn,he⟩
  · exact tC (E:=E) (hm.obj _ _ hH) (h.bo id o ho) rfl (mZ hj) (fun _ _ h=>h) fun x y hv hb=>VR.aUb hv (fun _ _ h=>h) y rfl hb (fun _ _ hk=>mZ hk) fun _ hk=>by simp [Env.part,hk]
  · cases o<;>simp [AO.empty] at he
    rename_i z l
    cases l with
    | nil=>exact .inl ⟨by simp [Env.part,hn],rfl⟩
    | cons a l=>simp at he
 inj:=fun i j oi oj Li Lj hij hi hj hli hlj hμi hμj=>by
  rcases h.is i oi hi with ⟨i',hi',hHi⟩|⟨hn,he⟩
  · rcases h.is j oj hj with ⟨j',hj',hHj⟩|⟨hn,he⟩
    · rw [mZ hi'] at hμi
      rw [mZ hj'] at hμj
      exact hm.inj i' j' _ _ Li Lj (fun e=>hij (h.inj i j i' (List.getElem?_eq_some_iff.1 hi).1 (List.getElem?_eq_some_iff.1 hj).1 hi' (e ▸ hj'))) hHi hHj (by rw [AO.aBI];exact hli) (by rw [AO.aBI];exact hlj) hμi hμj
    · simp [Env.part,hn] at hμj
  · simp [Env.part,hn] at hμi
 disj:=hm.disj
 bound:=hm.bound
 sbound:=hm.sbound
 sub:=hm.sub
end Go.Ab
