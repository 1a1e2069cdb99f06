/- A part of a proof: how code is told and stepped through. No condition. -/
import Derived.Test.YtakemdamegfcfaaGreatT6
set_option linter.unusedSimpArgs false
set_option linter.unusedVariables false
namespace Go.Ab
open Go
section sound
variable {P:Program} {E:Env} {H:List AO}
theorem wG {o:Oper} {z n:Nat} {v:AV} {ps:List (Nat×Operand)} (h:cJ P o=some (.bls z n v ps)):False:=by
 unfold cJ kE jA fV kD fW eB at h
 (repeat' split at h)<;>first|(cases h;done)|skip
theorem aQv {o:Oper} {z n:Nat} {v:AV} {ps:List (Nat×Operand)} (h:eU P o=some (.bls z n v ps)):∃ t el parts,o.op= .buildSlice t n parts/\parts.toList=ps/\P.underlying t=some (.slice el)/\gC P el=some v/\(P.info? el).isSome=true/\P.cellsOf el=z:=by
 unfold eU at h
 (repeat' split at h)<;>first|(cases h;done)|skip
 cases h
 exact ⟨_,_,_,by assumption,rfl,by assumption,by assumption,by assumption,rfl⟩
theorem aK0 {o:Oper} {z b:Nat} {s x:Operand} (h:eU P o=some (.app z b s x)):∃ args ts t t2 el el2,o.op= .call { callee:=.builtin .append,args:=args,argTypes:=ts }/\args.toList=[s,x]/\ts.toList=[t,t2]/\P.underlying t=some (.slice el)/\P.underlying t2=some (.slice el2)/\(P.info? el).isSome=true/\(fR P el).map List.length=some (P.cellsOf el)/\P.cellsOf el=z/\P.bytesOf el=b:=by
 unfold eU at h
 (repeat' split at h)<;>first|(cases h;done)|skip
 rename_i hcond
 simp only [Bool.and_eq_true,decide_eq_true_eq] at hcond
 cases h
 exact ⟨_,_,_,_,_,_,by assumption,by assumption,by assumption,by assumption,by assumption,hcond.1,hcond.2,rfl,rfl⟩
theorem yC (hm:HM E H) (cells:Array Value) (t:TypeId) (cs:List AV) (z len cap:Nat) (hl:cells.size=cs.length) (hc:cap*z=cs.length) (hlen:len<=cap) (h1:∀ y∈cs,y.one=true)
 (hv:∀ k y,cs[k]?=some y->E.VR H.length (cells.getD k undef) y) :
 ∃ E',E'.w=E.w.alloc (.cells cells t)/\E'.VR (H++[AO.box cs]).length (.slice (some ⟨E.w.heap.size,0,none⟩) len cap) (.own H.length z 0 len)/\HM E' (H++[.box cs])/\Trans E H.length E' (H++[AO.box cs]).length:=by
 have t1:=jY hm (.cells cells t) ⟨E.w.heap.size,0,cs.length,z⟩
 refine ⟨E.alloc H.length (.cells cells t) ⟨E.w.heap.size,0,cs.length,z⟩,rfl,?_,tE hm _ _ rfl _ ?_,by simpa using t1⟩
 · have:(E.alloc H.length (.cells cells t) ⟨E.w.heap.size,0,cs.length,z⟩).VR (H++[AO.box cs]).length (.slice (some ⟨E.w.heap.size,0+0*z,none⟩) len cap) (.own H.length z 0 len) :=
    .own (L:=⟨E.w.heap.size,0,cs.length,z⟩) (by simp) cY rfl hlen (by simpa using hc)
   simpa using this
 · exact ⟨_,cells,t,(0,0),cY,.inr rfl,rfl,rfl,heap_alloc_new _ _,hl,nZ _,h1,fun k y hk=>(hv k y hk).trans hm t1⟩
open Classical in
theorem lD {e:Operand->AV} {K:AV->List AO->Prop} {z:Nat} {zero:AV} {x:Operand} (h1:z<=2^24) (hz0:zero.el z=true) (hx:(e x).cells.length=z) (hone:∀ y∈(e x).cells,y.one=true)
 (hk:K (.own H.length z 0 1) (H++[.box (e x).cells])):nU P (.bls z 1 zero [(0,x)]) e H K:=by
 intro o E a hc hm he
 have hl:eU P o=some (.bls z 1 zero [(0,x)]):=by
  unfold jB at hc
  split at hc
  · split at hc
    · rename_i h1 _;cases hc;exact (wG h1).elim
    · cases hc
  · split at hc
    · split at hc
      · rename_i h1 _;cases hc;exact h1
      · cases hc
    · unfold fB at hc
      split at hc<;>cases hc
 obtain ⟨t,el,parts,ho,hps,ht,hz,hi,rfl⟩:=aQv hl
 obtain ⟨parts⟩:=parts
 simp only at hps
 subst hps
 obtain ⟨ii,hii⟩:=Option.isSome_iff_exists.1 hi
 obtain ⟨v,hv,hvs,hvv⟩:=kK (E:=E) (n:=H.length) hz hz0
 have hxv:E.VR H.length (a.eval x) (e x):=he x (by simp [CO.ops])
 generalize hzz:P.cellsOf el=z at *
 have he':∀ y,E.VR H.length (a.eval y) ((fun y=>if y=x then e x else .top) y):=fun y=>by
  by_cases h:y=x
  · subst h;simp only [if_true];exact hxv
  · simp only [h,if_false];exact .top
 have hzc:=dD hz0
 obtain ⟨cs,g1,g2,g3,g4,g5⟩:=rT (E:=E) (n:=H.length) (a:=a) (e:=fun y=>if y=x then e x else .top) (fun i=>some (i*z,z)) [(0,0*z,z,x)] (madeCells v.cells (1*z)).toList zero.cells
  (by rw [hzc.1];simp [madeCells]) (fun k y hk=>by
    have:=oY (E:=E) (n:=H.length) hz0 hvs hvv 1 (1*z) (Nat.le_refl _) k y (by simpa [flat] using hk)
    simpa [Array.getD_eq_getD_getElem?,List.getD_eq_getElem?_getD] using this) (fun y hy=>AV.eF (hzc.2 y hy)) (fun p hp=>by simp at hp;subst hp;simp) he'
  (by simp [cA,hx,hzc.1];exact fun y hy=>hone y hy)
 have e1:bU zero.cells ([(0,0*z,z,x)].map fun p=>(p.2.1,p.2.2.1,(fun y=>if y=x then e x else AV.top) p.2.2.2))=(e x).cells:=by
  simp [bU,hzc.1]
 rw [e1] at g3 g4 g5
 have hcs:cs.toArray.size=(e x).cells.length:=by simp [g2,hzc.1,hx]
 obtain ⟨E',hw,r1,r2,r3⟩:=yC hm cs.toArray el (e x).cells z 1 1 hcs (by rw [hx];omega) (Nat.le_refl _) hone
  (fun k y hk=>by simpa [Array.getD_eq_getD_getElem?,List.getD_eq_getElem?_getD] using g4 k y hk)
 refine ⟨_,_,E',_,.inl ?_,r1,r2,r3,hk⟩
 have hs:execOp a.eval o=(do pure (.value (<- Instr.buildSlice t 1 #[(0,a.eval x)]))):=by simp [execOp,ho]
 have hnz:¬ (1*z>2^24):=by omega
 rw [hs,hw]
 have g1':Instr.fill (fun i=>some (i*z,z)) (madeCells v.cells (1*z)) [(0,a.eval x)]=some cs.toArray:=by simpa using g1
 have hbs:(Instr.buildSlice t 1 #[(0,a.eval x)]).run P E.w= .ok (.slice (some ⟨E.w.heap.size,0,none⟩) 1 1) (E.w.alloc (.cells cs.toArray el)):=by
  simp only [Instr.buildSlice,Sem.run_bind,run_underlying ht,Result.andThen_ok,run_sizeOf _ hii,hzz,hnz,if_false]
  by_cases h0:1*z=0
  · have e3:∀ q:Array Value,(Array.range (1*z)).map (q[· % q.size]!)=madeCells v.cells (1*z):=fun q=>by simp [h0,madeCells,Array.range_zero']
    rw [if_pos h0]
    simp only [Sem.run_bind,Sem.run_pure,Result.andThen_ok,e3,g1']
    rfl
  · rw [if_neg h0]
    have e3:(Array.range (1*z)).map (v.cells[· % v.cells.size]!)=madeCells v.cells (1*z):=rfl
    simp only [Sem.run_bind,hv,Sem.run_pure,Result.andThen_ok,e3,g1']
    rfl
 simp only [Sem.run_bind,hbs,Result.andThen_ok,Sem.run_pure]
theorem jQ {id z m:Nat} {cs:List AV} {v:Value} (hm:HM E H) (hx:E.VR H.length v (.own id z 0 m)) (hob:H[id]?=some (.box cs)) (hcs:m*z<=cs.length) :
 ∃ A c,∃ us:List Value,v= .slice A m c/\m<=c/\(Builtin.firstCells z m v).run P E.w= .ok us.toArray E.w/\us.length=m*z/\(∀ u∈us,u.oneCell'=true)/\∀ k y,k<m*z->cs[k]?=some y->E.VR H.length (us.getD k undef) y:=by
 obtain ⟨L',u,t,fz,b1,b2,b3,b4,b5,b6,b7,b8,b9⟩:=hm.obj id _ hob
 obtain ⟨_,⟨A,rfl,rfl,he0⟩|⟨L,c,hL,hLz,rfl,hlen,hcap⟩⟩:=hx.cN
 · refine ⟨A,0,[],rfl,Nat.le_refl _,?_,by simp,by simp,fun k y hk=>by omega⟩
   cases A with
   | none=>rfl
   | some ad=>simp [Builtin.firstCells,loadCells,loadCellsFrom]
 · rw [b1] at hL
   cases hL
   have hcell:∀ k,k<m*z->E.w.cell? ⟨L'.b,L'.o+0*z+k,none⟩=some (u.getD k undef):=fun k hk=>by
    have hlt:k<u.size:=by omega
    simp only [World.cell?,b5,b3]
    simp [Array.getD,hlt]
   refine ⟨_,c,(List.range (m*z)).map fun k=>u.getD k undef,rfl,hlen,?_,by simp,fun x hx=>?_,fun k y hk hy=>?_⟩
   · simp only [Builtin.firstCells]
     exact lK hcell
   · obtain ⟨k,hk,rfl⟩:=List.mem_map.1 hx
     have hk':k<cs.length:=by have:=List.mem_range.1 hk;omega
     exact (b9 k _ (List.getElem?_eq_getElem hk')).one (b8 _ (List.getElem_mem hk'))
   · have:((List.range (m*z)).map fun k=>u.getD k undef).getD k undef=u.getD k undef:=by
      simp [List.getD_eq_getElem?_getD,hk]
     rw [this]
     exact b9 k y hy
theorem aKl {cs:List AV} {k n:Nat} {y:AV} (hk:(cs++List.replicate n AV.any)[k]?=some y):(k<cs.length/\cs[k]?=some y)∨(cs.length<=k/\k<cs.length+n/\y= .any):=by
 by_cases h:k<cs.length
 · rw [List.getElem?_append_left h] at hk
   exact .inl ⟨h,hk⟩
 · rw [List.getElem?_append_right (by omega)] at hk
   have:=(List.getElem?_eq_some_iff.1 hk)
   obtain ⟨h1,h2⟩:=this
   rw [List.getElem_replicate] at h2
   simp at h1
   exact .inr ⟨by omega,by omega,h2.symm⟩
theorem lE {e:Operand->AV} {K:AV->List AO->Prop} {z b n m ix:Nat} {s x:Operand} {cs ys:List AV} (hz0:0<z) (hm0:0<m)
 (hs:(e s= .aD/\n=0/\cs=[])∨∃ id,e s= .own id z 0 n/\H[id]?=some (.box cs)) (hn:n*z<=cs.length) (hx:e x= .own ix z 0 m) (hox:H[ix]?=some (.box ys)) (hys:ys.length=m*z)
 (hb:(n+m)*b<=2^47) (h63:n+m<2^63)
 (hk:∀ k,K (.own H.length z 0 (n+m)) (hZ H (e s)++[.box (cs.take (n*z)++ys++List.replicate k .any)])):nU P (.app z b s x) e H K:=by
 intro o E a hc hm he
 have hl:eU P o=some (.app z b s x):=by
  unfold jB at hc
  split at hc
  · split at hc
    · rename_i h1 _;cases hc;exact (yM h1).elim
    · cases hc
  · split at hc
    · split at hc
      · rename_i h1 _;cases hc;exact h1
      · cases hc
    · unfold fB at hc
      split at hc<;>cases hc
 obtain ⟨args,ts,t,t2,el,el2,ho,ha,hts,ht,ht2,hi,hz0l,hz,hbb⟩:=aK0 hl
 obtain ⟨ii,hii⟩:=Option.isSome_iff_exists.1 hi
 obtain ⟨args⟩:=args
 obtain ⟨ts⟩:=ts
 simp only at ha hts
 subst ha hts hbb
 have hs':execOp a.eval o=(do pure (.value (<- Builtin.append_ #[t,t2] o.type #[a.eval s,a.eval x]))):=by
  simp only [execOp,ho,resolve,invoke,pure_bind,builtin,List.map_toArray,List.map_cons,List.map_nil]
 have hsv:E.VR H.length (a.eval s) (e s):=he s (by simp [CO.ops])
 have hxv:E.VR H.length (a.eval x) (e x):=he x (by simp [CO.ops])
 rw [hx] at hxv
 have hysone:∀ y∈ys,y.one=true:=by
  obtain ⟨L',u,t,fz,b1,b2,b3,b4,b5,b6,b7,b8,b9⟩:=hm.obj ix _ hox
  exact b8
 have hlt:(cs.take (n*z)++ys).length=(n+m)*z:=by
  rw [List.length_append,List.length_take,hys,Nat.add_mul]
  omega
 have e0:(n+m)*z=n*z+m*z:=Nat.add_mul _ _ _
 have hS:∃ A c,a.eval s= .slice A n c/\n<=c/\(∀ y∈cs,y.one=true) /\
  ((c=0/\n=0)∨∃ id L,e s= .own id z 0 n/\H[id]?=some (.box cs)/\id<H.length/\E.μ id=some L/\L.z=z/\A=some ⟨L.b,L.o,none⟩/\L.o+c*z=L.n):=by
  rcases hs with ⟨h1,rfl,rfl⟩|⟨id,h1,h2⟩
  · rw [h1] at hsv
    exact ⟨none,0,hsv.fS,Nat.le_refl _,by simp,.inl ⟨rfl,rfl⟩⟩
  · rw [h1] at hsv
    obtain ⟨L',u,t,fz,b1,b2,b3,b4,b5,b6,b7,b8,b9⟩:=hm.obj id _ h2
    obtain ⟨hid,⟨A,hv,rfl,he0⟩|⟨L,c,hL,hLz,hv,hlen,hcap⟩⟩:=hsv.cN
    · exact ⟨A,0,hv,Nat.le_refl _,b8,.inl ⟨rfl,rfl⟩⟩
    · refine ⟨_,c,hv,hlen,b8,.inr ⟨id,L,h1,h2,hid,hL,hLz,by simp,by simpa using hcap⟩⟩
 obtain ⟨A,c,hv,hnc,hcone,hcase⟩:=hS
 obtain ⟨B,c2,ws,hu,hmc2,w1,w2,w3,w4⟩:=jQ (P:=P) hm hxv hox (by omega)
 by_cases hroom:n+m<=c
 ·
  rcases hcase with ⟨h0,_⟩|⟨id,L,h1,hob,hid,hL,hLz,hA,hcap⟩
  · omega
  obtain ⟨L',u,t',fz,b1,b2,b3,b4,b5,b6,b7,b8,b9⟩:=hm.obj id _ hob
  rw [hL] at b1
  cases b1
  have hcz:c*z=cs.length:=by omega
  have hcm:(n+m)*z<=c*z:=Nat.mul_le_mul_right _ hroom
  have hst:=dU P L.b t' fz ws (L.o+n*z) 0 u E.w b5 (by rw [b6];exact b7) (by rw [b6,w2];omega) w3
  obtain ⟨cur,hcur⟩:∃ cur,cur=u.toList.take (L.o+n*z+0)++ws++u.toList.drop (L.o+n*z+0+ws.length):=⟨_,rfl⟩
  have hcurl:cur.length=L.n:=by rw [hcur];simp;omega
  rw [<- hcur] at hst
  have hr:(Builtin.append_ #[t,t2] o.type #[a.eval s,a.eval x]).run P E.w= .ok (.slice A (n+m) c) (E.w.setRow L.b cur.toArray):=by
   rw [hv,hu,hA]
   rw [hu] at w1
   exact oK (P:=P) (ty:=o.type) ht ht2 hii hz w1 hroom hst
  have t1:Trans E H.length { E with w:=E.w.setRow L.b cur.toArray } H.length :=
   eM _ L.b rfl rfl rfl (by rw [setRow_size];exact Nat.le_refl _) (fun k hk=>setRow_other _ _ _ _ hk) b2
  let new:List AV:=cs.take (n*z)++ys++List.replicate (cs.length-(n+m)*z) .any
  have hnewl:new.length=cs.length:=by
   show (cs.take (n*z)++ys++List.replicate (cs.length-(n+m)*z) AV.any).length=cs.length
   rw [List.length_append,hlt,List.length_replicate]
   omega
  have hnew1:∀ y∈new,y.one=true:=fun y hy=>by
   rcases List.mem_append.1 hy with hy|hy
   · rcases List.mem_append.1 hy with hy|hy
     · exact hcone y (List.mem_of_mem_take hy)
     · exact hysone y hy
   · rw [List.eq_of_mem_replicate hy];rfl
  have hcell:∀ k y,new[k]?=some y->E.VR H.length (cur.toArray.getD k undef) y:=fun k y hk=>by
   have hkl:k<cs.length:=by rw [<- hnewl];exact (List.getElem?_eq_some_iff.1 hk).1
   have g0:cur.toArray.getD k undef=cur.getD k undef:=by simp [Array.getD_eq_getD_getElem?,List.getD_eq_getElem?_getD]
   rw [g0,hcur,List.append_assoc,List.getD_eq_getElem?_getD]
   have f3:(u.toList.take (L.o+n*z+0)).length=n*z:=by simp;omega
   rcases aKl hk with ⟨h1,h2⟩|⟨h1,h2,rfl⟩
   · by_cases hk1:k<n*z
     · rw [List.getElem?_append_left (by simp;omega),List.getElem?_take,if_pos hk1] at h2
       rw [List.getElem?_append_left (by omega),List.getElem?_take,if_pos (by omega)]
       have:=b9 k y h2
       simpa [Array.getD_eq_getD_getElem?] using this
     · have ft:(cs.take (n*z)).length=n*z:=by simp;omega
       rw [List.getElem?_append_right (by omega),ft] at h2
       have h3:=(List.getElem?_eq_some_iff.1 h2).1
       rw [List.getElem?_append_right (by omega),List.getElem?_append_left (by omega),f3,<- List.getD_eq_getElem?_getD]
       exact w4 _ y (by omega) h2
   · rw [hlt] at h1 h2
     rw [List.getElem?_append_right (by omega),List.getElem?_append_right (by omega),List.getElem?_drop,f3]
     have e5:L.o+n*z+0+ws.length+(k-n*z-ws.length)=k:=by omega
     rw [e5]
     have h4:=(b9 k _ (List.getElem?_eq_getElem hkl)).one (b8 _ (List.getElem_mem hkl))
     refine .any ?_
     simpa [Array.getD_eq_getD_getElem?] using h4
  have hnew:({ E with w:=E.w.setRow L.b cur.toArray }:Env).holds H.length id (.box new) :=
   ⟨L,_,t',fz,hL,b2,b3,by rw [hnewl];exact b4,setRow_heap _ _ u _ t' fz b5,by simpa using hcurl,b7,hnew1,fun k y hk=>(hcell k y hk).trans hm t1⟩
  have hm1:=jP hm (E.w.setRow L.b cur.toArray) id _ (.box new) L rfl rfl rfl (setRow_size _ _ _) (fun k hk=>setRow_other _ _ _ _ hk) hob rfl hL hnew
  have hob1:(H.set id (.box new))[id]?=some (.box new):=List.getElem?_set_self hid
  have hm2:=yX hm1 id _ (.box new) L L hob1 rfl hL rfl (by
   have t2:=eO (E:={ E with w:=E.w.setRow L.b cur.toArray }) (H:=H.set id (.box new)) (some L)
   rw [List.length_set] at t2 ⊢
   refine ⟨L,_,t',fz,cY,b2,b3,by rw [hnewl];exact b4,setRow_heap _ _ u _ t' fz b5,by simpa using hcurl,b7,hnew1,fun k y hk=>?_⟩
   have h5:({ E with w:=E.w.setRow L.b cur.toArray }:Env).VR (H.set id (.box new)).length (cur.toArray.getD k undef) y:=by
    rw [List.length_set];exact (hcell k y hk).trans hm t1
   have:=h5.trans hm1 (eO (E:={ E with w:=E.w.setRow L.b cur.toArray }) (H:=H.set id (.box new)) (some L))
   rw [List.length_set] at this
   exact this)
  have hset:(H.set id (.box new)).set id AO.dead=H.set id .dead:=by rw [List.set_set]
  rw [hset,List.length_set] at hm2
  have hkill:hZ H (e s)=H.set id .dead:=by rw [h1];rfl
  have hk1:=hk (cs.length-(n+m)*z)
  rw [hkill] at hk1
  refine ⟨.slice A (n+m) c,_,_,_,.inl ?_,?_,hm2,?_,hk1⟩
  · rw [hs']
    simp only [Sem.run_bind,hr,Result.andThen_ok,Sem.run_pure]
    rfl
  · have:Env.VR (Env.l5 { E with w:=E.w.setRow L.b cur.toArray } H.length (some L)) (H.set id .dead++[AO.box new]).length (.slice (some ⟨L.b,L.o+0*z,none⟩) (n+m) c) (.own H.length z 0 (n+m)) :=
     .own (L:=L) (by simp) cY hLz hroom (by simpa using hcap)
    rw [hA]
    simpa using this
  · have:=t1.trans (eO (E:={ E with w:=E.w.setRow L.b cur.toArray }) (H:=H) (some L))
    simpa using this
 ·
  have hmd:=j6 hm
  have hkl:=mI H (e s)
  have hmk:=tD hmd (e s)
  obtain ⟨B',c2',ws',hu',hmc2',w1',w2',w3',w4'⟩:=jQ (P:=P) hmd (hxv.trans hm cC) hox (by omega)
  have hus:∃ us:List Value,(Builtin.firstCells z n (a.eval s)).run P E.w.drew= .ok us.toArray E.w.drew/\us.length=n*z/\∀ k y,k<n*z->cs[k]?=some y->E.drew.VR H.length (us.getD k undef) y:=by
   rcases hs with ⟨h1,h2,h3⟩|⟨id,h1,h2⟩
   · rw [hv]
     refine ⟨[],?_,by rw [h2];simp,fun k y hk=>by rw [h2] at hk;omega⟩
     rw [h2]
     cases A with
     | none=>rfl
     | some ad=>simp [Builtin.firstCells,loadCells,loadCellsFrom]
   · rw [h1] at hsv
     obtain ⟨_,_,us,_,_,q1,q2,_,q4⟩:=jQ (P:=P) hmd (hsv.trans hm cC) h2 hn
     exact ⟨us,q1,q2,q4⟩
  obtain ⟨us,u1,u2,u4⟩:=hus
  rw [hv] at u1
  rw [hu'] at w1'
  obtain ⟨zs,hzs⟩:∃ zs,fR P el=some zs:=by
   cases hq:fR P el with
   | none=>rw [hq] at hz0l;cases hz0l
   | some q=>exact ⟨q,rfl⟩
  obtain ⟨zv,hzv,hzvl,hz1,hz2⟩:=oA (E:=E.drew) (n:=H.length) hzs
  rw [hzs] at hz0l
  simp only [Option.map_some,Option.some.injEq] at hz0l
  have hzc:zv.cells.size=z:=by simp at hzvl;omega
  have hzc1:=w0 hzvl hz1 hz2
  have hr:(Builtin.append_ #[t,t2] o.type #[a.eval s,a.eval x]).run P E.w= .ok (.slice (some ⟨E.w.heap.size,0,none⟩) (n+m) (grownCap E.w (n+m) c el))
   (E.w.drew.alloc (.cells (us.toArray++ws'.toArray++Builtin.zeroCells zv.cells (grownCap E.w (n+m) c el-(n+m))) el)):=by
   rw [hv,hu']
   exact oL (P:=P) (ty:=o.type) ht ht2 hii hz u1 w1' (by omega) h63 hb hzv
  have hcg:=grownCap_ge E.w (n+m) c el
  generalize grownCap E.w (n+m) c el=cap at hr hcg
  let new:List AV:=cs.take (n*z)++ys++List.replicate ((cap-(n+m))*z) .any
  have hcapz:cap*z=(n+m)*z+(cap-(n+m))*z:=by rw [<- Nat.add_mul];congr 1;omega
  have hnewl:new.length=cap*z:=by
   show (cs.take (n*z)++ys++List.replicate ((cap-(n+m))*z) AV.any).length=cap*z
   rw [List.length_append,hlt,List.length_replicate,hcapz]
  have hnew1:∀ y∈new,y.one=true:=fun y hy=>by
   rcases List.mem_append.1 hy with hy|hy
   · rcases List.mem_append.1 hy with hy|hy
     · exact hcone y (List.mem_of_mem_take hy)
     · exact hysone y hy
   · rw [List.eq_of_mem_replicate hy];rfl
  have hsz:(us.toArray++ws'.toArray++Builtin.zeroCells zv.cells (cap-(n+m))).size=cap*z:=by
   simp only [Array.size_append,List.size_toArray,size_zeroCells,hzc,u2,w2']
   rw [hcapz,e0]
  obtain ⟨E',hw,r1,r2,r3⟩:=yC hmk (us.toArray++ws'.toArray++Builtin.zeroCells zv.cells (cap-(n+m))) el new z (n+m) cap (by rw [hsz,hnewl]) hnewl.symm hcg hnew1 (fun k y hk=>by
   rw [hkl]
   have hkl2:k<cap*z:=by rw [<- hnewl];exact (List.getElem?_eq_some_iff.1 hk).1
   rw [Array.getD_eq_getD_getElem?]
   have husz:(us.toArray++ws'.toArray).size=(n+m)*z:=by simp [u2,w2',e0]
   rcases aKl hk with ⟨h1,h2⟩|⟨h1,h2,rfl⟩
   · rw [hlt] at h1
     rw [Array.getElem?_append_left (by omega)]
     by_cases hk1:k<n*z
     · rw [List.getElem?_append_left (by simp;omega),List.getElem?_take,if_pos hk1] at h2
       rw [Array.getElem?_append_left (by simp;omega)]
       have:=u4 k y hk1 h2
       simpa [List.getD_eq_getElem?_getD] using this
     · have ft:(cs.take (n*z)).length=n*z:=by simp;omega
       rw [List.getElem?_append_right (by omega),ft] at h2
       rw [Array.getElem?_append_right (by simp;omega)]
       have:=w4' (k-n*z) y (by omega) h2
       simpa [List.getD_eq_getElem?_getD,u2] using this
   · rw [hlt] at h1
     rw [Array.getElem?_append_right (by omega),husz]
     have h3:k-(n+m)*z<(Builtin.zeroCells zv.cells (cap-(n+m))).size:=by
      rw [size_zeroCells,hzc];omega
     generalize k-(n+m)*z=j at h3 ⊢
     have hp:0<zv.cells.size:=by omega
     have hj:j % zv.cells.size<zv.cells.size:=Nat.mod_lt _ hp
     have e1:(Builtin.zeroCells zv.cells (cap-(n+m)))[j]?.getD undef=zv.cells.getD (j % zv.cells.size) undef:=by
      rw [size_zeroCells] at h3
      simp [Builtin.zeroCells,Array.getD,h3,hj]
     rw [e1]
     exact .any (hzc1 _ hj))
  have hk1:=hk ((cap-(n+m))*z)
  rw [hkl] at r1 r3
  refine ⟨_,_,E',_,.inl ?_,r1,r2,?_,hk1⟩
  · rw [hs',hw]
    simp only [Sem.run_bind,hr,Result.andThen_ok,Sem.run_pure]
    rfl
  · exact (cC (H:=H)).trans r3
theorem aKX {w w':World} {S S':Bool->Nat->Prop} {μ μ':Nat->Option Loc} {n n':Nat} {v:Value} {y:AV} (hy:y.mA=true) (h:VR w S μ n v y):VR w' S' μ' n' v y:=by
 cases h<;>first|(simp [AV.mA] at hy;done)|exact .int|exact .bool|(rename_i h;exact .str h)
theorem _root_.Go.Ab.Vw.aZa {q z n:Nat} {cs rows:List AV} (hq:H[q]?=some (.box cs)) (hel:∀ a∈rows,a.el z=true) (hn:rows.length=n) (hc:∀ (k:Nat) (y:AV),(flat rows)[k]?=some y->∃ x:AV,cs[k]?=some x/\((x=y/\y.mA=true)∨y= .any)) :
 Vw true H (.own q z 0 n) (.sl true z rows):=fun G E v hm hv=>by
 have hq2:(H++G)[q]?=some (.box cs):=by rw [List.getElem?_append_left (List.getElem?_eq_some_iff.1 hq).1];exact hq
 obtain ⟨L',u,t,fz,b1,b2,b3,b4,b5,b6,b7,b8,b9⟩:=hm.obj q _ hq2
 obtain ⟨_,⟨A,rfl,h0,he0⟩|⟨L,c,hL,hLz,rfl,hlen,hcap⟩⟩:=hv.cN
 · have:rows=[]:=List.eq_nil_of_length_eq_zero (by omega)
   subst this
   exact .sl0
 · rw [b1] at hL
   cases hL
   refine .sl (fun k=>u.getD k undef) hn.symm (by omega) (.inr ⟨rfl,hm.bound _ b2⟩) hel (fun k hk=>?_) fun k y hk=>?_
   · obtain ⟨x,hx,_⟩:=hc k _ (List.getElem?_eq_getElem hk)
     have hlt:k<u.size:=by have:=(List.getElem?_eq_some_iff.1 hx).1;omega
     have:E.w.cell? ⟨L'.b,L'.o+0*z+k,none⟩=some (u.getD k undef):=by
      simp only [World.cell?,b5,b3]
      simp [Array.getD,hlt]
     exact this
   · obtain ⟨x,hx,hh⟩:=hc k y hk
     have hvx:=b9 k x hx
     rcases hh with ⟨rfl,hs⟩|rfl
     · exact aKX hs hvx
     · exact .any (hvx.one (b8 x (List.mem_of_getElem? hx)))
theorem _root_.Go.Ab.Vw.aZi {aM:Bool} {a b a' b':AV} (h1:Vw aM H a a') (h2:Vw aM H b b') (o1:a'.one=true) (o2:b'.one=true):Vw aM H (.agg [a,b]) (.agg [a',b']):=fun G E v hm hv=>by
 cases hv with
 | agg hl _ hk =>
   refine .agg hl (fun y hy=>?_) fun k y hy=>?_
   · simp at hy
     rcases hy with rfl|rfl
     · exact o1
     · exact o2
   · match k,hy with
     | 0,hy=>simp at hy;subst hy;exact h1 G E _ hm (hk 0 _ rfl)
     | 1,hy=>simp at hy;subst hy;exact h2 G E _ hm (hk 1 _ rfl)
     | k+2,hy=>simp at hy
theorem vE {q:Nat} {cs cs':List AV} (hm:HM E H) (hq:H[q]?=some (.box cs)) (hl:cs'.length=cs.length) (h1:∀ y∈cs',y.one=true) (hv:∀ (k:Nat) (x y:AV),cs[k]?=some x->cs'[k]?=some y->∀ v,E.VR H.length v x->E.VR H.length v y):HM E (H.set q (.box cs')):=by
 obtain ⟨L,u,t,fz,b1,b2,b3,b4,b5,b6,b7,b8,b9⟩:=hm.obj q _ hq
 exact jP hm E.w q _ (.box cs') L rfl rfl rfl rfl (fun _ _=>rfl) hq rfl b1 ⟨L,u,t,fz,b1,b2,b3,by rw [hl];exact b4,b5,b6,b7,h1,fun k y hk=>by
  have hkl:k<cs.length:=by rw [<- hl];exact (List.getElem?_eq_some_iff.1 hk).1
  exact hv k _ y (List.getElem?_eq_getElem hkl) hk _ (b9 k _ (List.getElem?_eq_getElem hkl))⟩
theorem aFE {q c z:Nat} {A B l:List AV} (hm:HM E H) (hq:H[q]?=some (.box (A++ .own c z 0 l.length :: B))) (hc:H[c]?=some (.arr z l)) (hne:c≠q) :
 ∃ E1:Env,E1.w=E.w/\E1.μ=E.μ/\HM E1 ((H.set c .dead).set q (.box (A++ .sl false z l :: B)))/\Trans E H.length E1 H.length:=by
 have hq2:(H.set c .dead)[q]?=some (.box (A++ .own c z 0 l.length :: B)):=by rw [List.getElem?_set_ne hne];exact hq
 obtain ⟨Lq,uq,tq,fq,b1,b2,b3,b4,b5,b6,b7,b8,b9⟩:=hm.obj q _ hq
 have h1:∀ y∈A++ .sl false z l :: B,y.one=true:=fun y hy=>by
  rcases List.mem_append.1 hy with hy|hy
  · exact b8 y (List.mem_append_left _ hy)
  · rcases List.mem_cons.1 hy with rfl|hy
    · rfl
    · exact b8 y (List.mem_append_right _ (List.mem_cons_of_mem _ hy))
 have tell:∀ {E1:Env} {n:Nat},(∀ v,E1.VR n v (.own c z 0 l.length)->E1.VR n v (.sl false z l))->∀ (k:Nat) (x y:AV),(A++ .own c z 0 l.length :: B)[k]?=some x->(A++ .sl false z l :: B)[k]?=some y->∀ v,E1.VR n v x->E1.VR n v y:=by
  intro E1 n ht k x y hx hy v hv
  by_cases hk:k<A.length
  · rw [List.getElem?_append_left hk] at hx hy
    rw [hx] at hy;cases hy;exact hv
  · rw [List.getElem?_append_right (by omega)] at hx hy
    match h:k-A.length with
    | 0=>rw [h] at hx hy;simp at hx hy;subst hx hy;exact ht v hv
    | j+1=>rw [h] at hx hy;simp at hx hy;rw [hx] at hy;cases hy;exact hv
 rcases hm.obj c _ hc with ⟨g1,rfl⟩|⟨L,u,t,fz,g1,g2,g3,g4,g5,g6,g7,g8,g9,g10,g11⟩
 · refine ⟨E,rfl,rfl,vE (rS hm c) hq2 (by simp) h1 (tell fun v hv=>?_),Trans.refl _ _⟩
   obtain ⟨_,⟨A,rfl,h0,he0⟩|⟨L,c,hL,hLz,rfl,hlen,hcap⟩⟩:=hv.cN
   · exact .sl0
   · exact .sl0
 · have t1:=gJ (H:=H) L.b g2
   have hm1:=qA hm c _ L hc rfl g1
   refine ⟨E.freeze L.b,rfl,rfl,vE hm1 hq2 (by simp) h1 (tell fun v hv=>?_),t1⟩
   obtain ⟨_,⟨A,rfl,h0,he0⟩|⟨L',cc,hL,hLz,rfl,hlen,hcap⟩⟩:=hv.cN
   · have:l=[]:=List.eq_nil_of_length_eq_zero h0
     subst this
     exact .sl0
   · have hL:E.μ c=some L':=hL
     rw [g1] at hL
     cases hL
     refine .sl (fun k=>u.getD (L.o+k) undef) rfl hlen (.inr rfl) g8 (fun k hk=>?_) fun k y hk=>?_
     · rw [bJ g8] at hk
       have hlt:L.o+k<u.size:=by omega
       have:E.w.cell? ⟨L.b,L.o+0*z+k,none⟩=some (u.getD (L.o+k) undef):=by
        simp only [World.cell?,g5]
        simp [Array.getD,hlt]
       exact this
     · rw [List.length_set]
       exact (g9 k y hk).trans hm t1
structure NQ where
 path:List UInt8
 l:List AV
 user:Int
 id:Nat
def kF (qs:List NQ):List AV:=qs.flatMap fun q=>[.str q.path,.own q.id 2 0 q.l.length,.int .i64 q.user]
def eI (qs:List NQ):List AV:=qs.flatMap fun q=>[.str q.path,.sl false 2 q.l,.int .i64 q.user]
def oM (qs:List NQ):List AV:=qs.map fun q=>.agg [.str q.path,.sl false 2 q.l,.int .i64 q.user]
def j7 (qs:List NQ) (H:List AO):List AO:=qs.foldl (fun H x=>H.set x.id .dead) H
theorem kX:∀ (qs:List NQ) (H:List AO),(j7 qs H).length=H.length
 | [],H=>rfl
 | q :: qs,H=>by
   have:=kX qs (H.set q.id .dead)
   unfold j7 at this ⊢
   rw [List.foldl_cons,this,List.length_set]
theorem vK:∀ (qs:List NQ) (H:List AO) (i:Nat) (o:AO),(∀ x∈qs,x.id≠i)->j7 qs (H.set i o)=(j7 qs H).set i o
 | [],H,i,o,_=>rfl
 | q :: qs,H,i,o,h=>by
   have:=vK qs (H.set q.id .dead) i o fun x hx=>h x (List.mem_cons_of_mem _ hx)
   unfold j7 at this ⊢
   rw [List.foldl_cons,List.foldl_cons,<- this,List.set_comm _ _ (h q List.mem_cons_self).symm]
theorem uV {q:Nat} {rest:List AV}:∀ (todo done:List NQ) (E:Env) (H:List AO),HM E H->H[q]?=some (.box (eI done++(kF todo++rest)))->(∀ x∈todo,H[x.id]?=some (.arr 2 x.l)/\x.id≠q)->(todo.map NQ.id).Nodup ->
 ∃ E1:Env,E1.w=E.w/\E1.μ=E.μ/\HM E1 ((j7 todo H).set q (.box (eI (done++todo)++rest)))/\Trans E H.length E1 H.length
 | [],done,E,H,hm,hq,_,_=>by
   refine ⟨E,rfl,rfl,?_,Trans.refl _ _⟩
   have:(j7 [] H).set q (.box (eI (done++[])++rest))=H:=by
    rw [List.append_nil]
    apply List.ext_getElem?
    intro k
    by_cases hk:k=q
    · subst hk
      rw [List.getElem?_set_self (by exact (List.getElem?_eq_some_iff.1 hq).1),hq]
      rfl
    · rw [List.getElem?_set_ne (Ne.symm hk)]
      rfl
   rw [this]
   exact hm
 | x :: todo,done,E,H,hm,hq,hc,hnd=>by
   have hx:=hc x List.mem_cons_self
   have e1:eI done++(kF (x :: todo)++rest)=(eI done++[.str x.path])++ .own x.id 2 0 x.l.length :: (.int .i64 x.user :: (kF todo++rest)):=by
    simp [kF,List.flatMap_cons]
   rw [e1] at hq
   obtain ⟨E1,w1,m1,hm1,t1⟩:=aFE hm hq hx.1 hx.2
   rw [List.map_cons,List.nodup_cons] at hnd
   have hql:q<H.length:=(List.getElem?_eq_some_iff.1 hq).1
   have hq1:((H.set x.id .dead).set q (.box ((eI done++[.str x.path])++ .sl false 2 x.l :: (.int .i64 x.user :: (kF todo++rest)))))[q]?=some (.box (eI (done++[x])++(kF todo++rest))):=by
    rw [List.getElem?_set_self (by simpa using hql)]
    simp [eI,List.flatMap_append,List.flatMap_cons]
   obtain ⟨E2,w2,m2,hm2,t2⟩:=uV todo (done++[x]) E1 _ hm1 hq1 (fun y hy=>by
    have hy1:=hc y (List.mem_cons_of_mem _ hy)
    have hne:y.id≠x.id:=fun e=>hnd.1 (List.mem_map.2 ⟨y,hy,e⟩)
    refine ⟨?_,hy1.2⟩
    rw [List.getElem?_set_ne (Ne.symm hy1.2),List.getElem?_set_ne (Ne.symm hne)]
    exact hy1.1) hnd.2
   refine ⟨E2,w2.trans w1,m2.trans m1,?_,t1.trans (by simpa using t2)⟩
   have e2:(j7 todo ((H.set x.id .dead).set q (.box ((eI done++[.str x.path])++ .sl false 2 x.l :: (.int .i64 x.user :: (kF todo++rest)))))).set q (.box (eI (done++[x]++todo)++rest))=(j7 (x :: todo) H).set q (.box (eI (done++x :: todo)++rest)):=by
    rw [vK _ _ _ _ (fun y hy=>(hc y (List.mem_cons_of_mem _ hy)).2),List.set_set,List.append_assoc,List.singleton_append]
    rfl
   rw [e2] at hm2
   exact hm2
theorem aGV (qs:List NQ):∀ a∈oM qs,a.el 3=true:=fun a ha=>by
 obtain ⟨x,_,rfl⟩:=List.mem_map.1 ha
 rfl
theorem sK:∀ qs:List NQ,flat (oM qs)=eI qs
 | []=>rfl
 | q :: qs=>by
   have:=sK qs
   unfold flat oM eI at this ⊢
   rw [List.map_cons,List.flatMap_cons,List.flatMap_cons,this]
   rfl
theorem aGQ {q:Nat} {qs:List NQ} {rest:List AV} {v:Value} {L:Loc} (hm:HM E H) (hq:H[q]?=some (.box (eI qs++rest))) (hv:E.VR H.length v (.own q 3 0 qs.length)) (hL0:E.μ q=some L) :
 (E.freeze L.b).VR H.length v (.sl false 3 (oM qs)):=by
 obtain ⟨L2,u,t,fz,b1,b2,b3,b4,b5,b6,b7,b8,b9⟩:=hm.obj q _ hq
 rw [hL0] at b1
 cases b1
 have b1:=hL0
 have t1:=gJ (H:=H) L.b b2
 have hfl:=sK qs
 have hrl:(oM qs).length=qs.length:=by simp [oM]
 obtain ⟨_,⟨A,rfl,h0,he0⟩|⟨L',cc,hL,hLz,rfl,hlen,hcap⟩⟩:=hv.cN
 · have:qs=[]:=List.eq_nil_of_length_eq_zero h0
   subst this
   exact .sl0
 · rw [b1] at hL
   cases hL
   refine .sl (fun k=>u.getD k undef) hrl.symm (by omega) (.inr rfl) (aGV qs) (fun k hk=>?_) fun k y hk=>?_
   · rw [hfl] at hk
     have hlt:k<u.size:=by
      rw [b6,b4,List.length_append];omega
     have:E.w.cell? ⟨L.b,L.o+0*3+k,none⟩=some (u.getD k undef):=by
      simp only [World.cell?,b5,b3]
      simp [Array.getD,hlt]
     exact this
   · rw [hfl] at hk
     have h2:(eI qs++rest)[k]?=some y:=by
      rw [List.getElem?_append_left (List.getElem?_eq_some_iff.1 hk).1];exact hk
     exact (b9 k y h2).trans hm t1
theorem Trans.less {E E':Env} {n m n':Nat} (t:Trans E n E' n') (h:m<=n):Trans E m E' n' :=
 ⟨t.os,t.tape,t.output,t.size,t.keep,t.grow,t.born,t.owns,fun id hi=>t.mu id (by omega),Nat.le_trans h t.num⟩
theorem aGP {g q:Nat} {qs:List NQ} {rest:List AV} {a:AV} {G:List AO} (hq:G[q]?=some (.box (kF qs++rest))) (hc:∀ x∈qs,G[x.id]?=some (.arr 2 x.l)/\x.id≠q) (hnd:(qs.map NQ.id).Nodup) (ha:a.one=true) :
 aBe g ⟨[(0,.agg [a,.own q 3 0 qs.length])],G⟩ ⟨[(0,.agg [a,.sl false 3 (oM qs)])],(j7 qs G).set q .dead⟩:=by
 intro E m0 hg hG hm
 simp only at hG hm ⊢
 obtain ⟨E1,w1,m1,hm1,t1⟩:=uV (q:=q) (rest:=rest) qs [] E G hm (by simpa [eI] using hq) hc hnd
 rw [List.nil_append] at hm1
 have hql:q<G.length:=(List.getElem?_eq_some_iff.1 hq).1
 have hq1:((j7 qs G).set q (.box (eI qs++rest)))[q]?=some (.box (eI qs++rest)):=List.getElem?_set_self (by rw [kX];exact hql)
 have hlen1:((j7 qs G).set q (.box (eI qs++rest))).length=G.length:=by rw [List.length_set,kX]
 have b:=hm1.obj q _ hq1
 obtain ⟨L,u,t,fz,b1,b2,b3,b4,b5,b6,b7,b8,b9⟩:=b
 have t2:=gJ (H:=(j7 qs G).set q (.box (eI qs++rest))) L.b b2
 have hm2:=qA hm1 q _ L hq1 rfl b1
 rw [List.set_set] at hm2
 rw [hlen1] at t2
 refine ⟨E1.freeze L.b,w1,hm2,fun k x hx=>?_,by
  rw [List.length_set,kX];exact (t1.trans t2).less hG⟩
 rw [List.length_set,kX]
 by_cases hk:0=k
 · subst hk
   simp only [bX.get,if_true] at hx ⊢
   cases hx with
   | agg hl h1 hkk =>
     refine .agg hl (fun y hy=>?_) fun k y hy=>?_
     · simp at hy
       rcases hy with rfl|rfl
       · exact ha
       · rfl
     · match k,hy with
       | 0,hy =>
         simp at hy;subst hy
         exact ((hkk 0 _ rfl).trans hm t1).mono (fun _ _ h=>.inl h) (fun _ _ _ _ _ h=>h) (fun _ _=>rfl) (Nat.le_refl _)
       | 1,hy =>
         simp at hy;subst hy
         have h3:=(hkk 1 _ rfl).trans hm t1
         rw [<- hlen1] at h3
         have h4:=aGQ hm1 hq1 h3 b1
         rw [hlen1] at h4
         exact h4
       | k+2,hy=>simp at hy
 · simp only [bX.get,hk,if_false]
   exact .top
end sound
theorem aBx {ρ:Nat->Option Nat}:∀ r:Nat,AV.roL ρ (List.replicate r .any)=List.replicate r .any
 | 0=>rfl
 | r+1=>by
   rw [List.replicate_succ,AV.roL,aBx r]
   rfl
theorem aEI {ρ:Nat->Option Nat} {n:Nat}:∀ r:Nat,AV.boL ρ n (List.replicate r .any)=true
 | 0=>rfl
 | r+1=>by
   rw [List.replicate_succ,AV.boL,aEI r]
   rfl
attribute [simp] aBx aEI
end Go.Ab
