/- A part of a proof: how code is told and stepped through. No condition. -/
import Derived.Test.YtakemdamegfcfaaGreatT3
set_option linter.unusedSimpArgs false
set_option linter.unusedVariables false
namespace Go.Ab
open Go
section regions
variable {P:Program} {N:Fix} {E:Env} {a:Act} {r:Nat->AV} {H:List AO} {ops:Array Oper} {cl:List aP}
theorem mJ {o:Oper} {g:Option (Nat×Bool)} (hc:aSE ops o=some g) (m:Match N E r H a) {X Y:Prop} (h:cZ g r X Y) :
 (Region.wanted o (yielded ops a.tmps)=true/\X)∨(Region.wanted o (yielded ops a.tmps)=false/\Y):=by
 unfold aSE at hc
 split at hc
 · rename_i hg
   cases hc
   exact .inl ⟨by simp [Region.wanted,hg],h⟩
 · rename_i j b hg
   split at hc
   · rename_i d hd
     cases hc
     simp only [cZ] at h
     have hr:=m.regs d
     split at h
     · rename_i q hq
       rw [hq] at hr
       have e1:=hr.gS
       have e2:a.tmps[d]?=some (.bool q):=by
        rw [Array.getD_eq_getD_getElem?] at e1
        cases hx:a.tmps[d]? with
        | none=>rw [hx] at e1;simp [undef] at e1
        | some v=>rw [hx] at e1;simpa using e1
       have hy:yielded ops a.tmps j=some q:=by simp [yielded,hd,e2]
       have hw:Region.wanted o (yielded ops a.tmps)=(q==b):=by
        simp only [Region.wanted,hg,hy]
        cases q<;>cases b<;>rfl
       rw [hw]
       by_cases hqb:q=b
       · rw [if_pos hqb] at h
         exact .inl ⟨by simp [hqb],h⟩
       · rw [if_neg hqb] at h
         exact .inr ⟨by simp [hqb],h⟩
     · rename_i hq
       rw [hq] at hr
       obtain ⟨vs,hv,hl,_⟩:=hr.mU
       have e0:vs=[]:=by simpa using hl
       subst e0
       have hy:yielded ops a.tmps j=none:=by
        simp only [yielded,hd,Option.bind_some]
        rw [Array.getD_eq_getD_getElem?] at hv
        cases hx:a.tmps[d]? with
        | none=>rfl
        | some v =>
          rw [hx] at hv
          simp only [Option.getD_some] at hv
          rw [hv]
       exact .inr ⟨by simp [Region.wanted,hg,hy],h⟩
     · exact h.elim
   · cases hc
theorem sC {n:Nat}:E.VR n undef (.tup []):=.tup (vs:=[]) rfl (fun k y hk=>by simp at hk)
theorem m7 (rest:List Oper):∀ (l:List Oper) (cl:List aP) (s:St) (E:Env) (a:Act) (K:St->Prop) (Kp:AV->St->Prop) (Q:Exit->Act->World->Prop),jS P ops l=some (cl.map aP.bare) ->
 (∀ o∈l,∀ t,o.dst=some t->t<N.n)->cF P false cl s K Kp->Match N E s.r.get s.H a ->
 (∀ a' E' s',Match N E' s'.r.get s'.H a'->Trans E s.H.length E' s'.H.length->K s'->wpList P ops Q rest a' E'.w) ->
 (∀ a' E' s' v x,Match N E' s'.r.get s'.H a'->Trans E s.H.length E' s'.H.length->E'.VR s'.H.length v x->Kp x s'->Q (.panic [⟨v,false,false⟩]) a' E'.w)->wpList P ops Q (l++rest) a E.w
 | [],cl,s,E,a,K,Kp,Q,hc,_,h,m,hQ,hP=>by
   simp only [jS,Option.some.injEq] at hc
   have hc:=(List.map_eq_nil_iff.1 hc.symm)
   subst hc
   exact hQ a E s m (Trans.refl _ _) h
 | o :: l,cl,s,E,a,K,Kp,Q,hc,hd,h,m,hQ,hP=>by
   simp only [jS] at hc
   split at hc
   · rename_i c cl'' hco hcl
     simp only [Option.some.injEq] at hc
     obtain ⟨c0,cl',rfl,hc0,hcl0⟩:=List.map_eq_cons_iff.1 hc.symm
     rw [<- hcl0] at hcl
     unfold aFV at hco
     split at hco
     · rename_i co g hcc hcg
       obtain ⟨d0,p0,g0⟩:=c0
       simp only [Option.some.injEq] at hco
       rw [<- hco] at hc0
       simp only [aP.bare,aP.mk.injEq] at hc0
       obtain ⟨rfl,rfl,rfl⟩:=hc0
       simp only [cF,Bool.false_eq_true,if_false] at h
       have hdo:=hd o List.mem_cons_self
       rw [List.cons_append]
       unfold wpList
       rcases mJ hcg m h with ⟨hw,h⟩|⟨hw,h⟩
       · rw [if_pos hw]
         refine .inl (sY hcc m hdo h (fun a' E' y H' m' ht hk=>?_) fun E' v x H' m' ht hv hk=>hP a E' ⟨s.r,H'⟩ v x m' ht hv hk)
         exact m7 rest l cl' ⟨s.r.put o.dst y,H'⟩ E' a' K Kp Q hcl (fun q hq=>hd q (List.mem_cons_of_mem _ hq)) hk (by rw [nC];exact m')
          (fun a'' E'' s'' m'' ht' hk'=>hQ a'' E'' s'' m'' (ht.trans ht') hk') fun a'' E'' s'' v x m'' ht' hv hk'=>hP a'' E'' s'' v x m'' (ht.trans ht') hv hk'
       · rw [if_neg (by rw [hw];simp)]
         have m':Match N E (bT s.r.get o.dst (.tup [])) s.H (a.put o.dst undef):=m.put (n:=0) hdo m.hm (Trans.refl _ _) sC
         exact m7 rest l cl' ⟨s.r.put o.dst (.tup []),s.H⟩ E _ K Kp Q hcl (fun q hq=>hd q (List.mem_cons_of_mem _ hq)) h (by rw [nC];exact m') hQ hP
     · cases hco
   · cases hc
structure FSt where
 r:Nat->AV
 H:List AO
def aOp (P:Program) (cl:List aP) (i:Nat) (K:FSt->Prop) (s:FSt):Prop :=
 match cl[i]? with
 | none=>K s
 | some o=>cZ o.guard s.r (opD P o.op (ev s.r) s.H fun y H'=>K ⟨bT s.r o.dst y,H'⟩) (K ⟨bT s.r o.dst (.tup []),s.H⟩)
def aKB (P:Program) (ops:Array Oper) (cl:List aP) (Q:FSt->Prop):Nat->Array Bool->FSt->Prop
 | 0,listed,s=>Region.ready .any ops listed=[]/\Q s
 | fuel+1,listed,s=>(Region.ready .any ops listed=[]->Q s)/\∀ i∈Region.ready .any ops listed,aOp P cl i (aKB P ops cl Q fuel (listed.setIfInBounds i true)) s
theorem bS {g:Option (Nat×Bool)} {X X' Y Y':Prop} (hx:X->X') (hy:Y->Y') (h:cZ g r X Y):cZ g r X' Y':=by
 unfold cZ at h ⊢
 split at h
 · exact hx h
 · split at h
   · split at h
     · rename_i hb;rw [if_pos hb];exact hx h
     · rename_i hb;rw [if_neg hb];exact hy h
   · exact hy h
   · exact h.elim
theorem oT {c:CO} {e:Operand->AV} {K K':AV->List AO->Prop} (hk:∀ y G,K y G->K' y G) (h:opD P c e H K):opD P c e H K':=by
 unfold opD at h ⊢
 split at h
 · exact ⟨h.1,fH (fun y hy=>hk _ _ hy) h.2⟩
 · exact jD (fun y hy=>hk _ _ hy) h
 · exact lC hk h
 · exact lC hk h
 · unfold iO at h ⊢
   split at h
   · obtain ⟨y,h1,h2⟩:=h;exact ⟨y,h1,hk _ _ h2⟩
   · split at h
     · obtain ⟨y,h1,h2⟩:=h;exact ⟨y,h1,hk _ _ h2⟩
     · exact h.elim
   · exact h.elim
theorem aFc {c:CO} {e:Operand->AV} {K:AV->List AO->Prop} (h:opD P c e H K):∃ y G,opD P c e H (fun a b=>a=y/\b=G)/\K y G:=by
 unfold opD at h ⊢
 split at h
 · obtain ⟨y,h1,h2⟩:=mG h.1 h.2
   exact ⟨y,H,⟨h.1,fH (fun q hq=>⟨hq,rfl⟩) h1⟩,h2⟩
 · obtain ⟨y,h1,h2⟩:=sP h
   exact ⟨y,H,jD (fun q hq=>⟨hq,rfl⟩) h1,h2⟩
 · exact qK h
 · exact qK h
 · unfold iO at h ⊢
   split at h
   · obtain ⟨y,h1,h2⟩:=h;exact ⟨y,H,⟨y,h1,rfl,rfl⟩,h2⟩
   · split at h
     · obtain ⟨y,h1,h2⟩:=h;exact ⟨y,H,⟨y,h1,rfl,rfl⟩,h2⟩
     · exact h.elim
   · exact h.elim
theorem aFU {c:CO} {e e':Operand->AV} (h:∀ x∈c.ops,e x=e' x):det c e=det c e':=by
 unfold det
 split
 · rename_i neg x y
   rw [h x (by simp [CO.ops])]
 · rfl
theorem jF {c:CO} {e e':Operand->AV} {K:AV->List AO->Prop} (h:∀ x∈c.ops,e x=e' x):opD P c e H K=opD P c e' H K:=by
 unfold opD
 split
 · rw [aFU h,j4 h]
 · exact nW h
 · exact jW h
 · exact jW h
 · unfold iO
   cases c<;>try rfl
   · rename_i f args _
     simp only [CO.ops] at h
     simp only
     rw [List.map_congr_left (fun x hx=>h x hx)]
   · rename_i x args _
     simp only [CO.ops] at h
     simp only
     rw [h x (by simp),List.map_congr_left (fun y hy=>h y (by simp [hy]))]
theorem aKp {i:Nat} {K K':FSt->Prop} {s:FSt} (hk:∀ s,K s->K' s) (h:aOp P cl i K s):aOp P cl i K' s:=by
 unfold aOp at h ⊢
 split at h
 · exact hk _ h
 · exact bS (oT fun y G=>hk _) (hk _) h
def Yd (P:Program) (o:aP) (y:AV) (H':List AO) (s:FSt):Prop :=
 cZ o.guard s.r (opD P o.op (ev s.r) s.H fun a b=>a=y/\b=H') (y= .tup []/\H'=s.H)
theorem fM {g:Option (Nat×Bool)} {X Y:Prop} (h:cZ g r X Y):(X/\∀ X' Y',X'->cZ g r X' Y')∨(Y/\∀ X' Y',Y'->cZ g r X' Y'):=by
 unfold cZ at h ⊢
 split at h
 · exact .inl ⟨h,fun _ _ h=>h⟩
 · split at h
   · split at h
     · rename_i hb
       simp only [hb,if_true]
       exact .inl ⟨h,fun _ _ h=>h⟩
     · rename_i hb
       simp only [hb,if_false]
       exact .inr ⟨h,fun _ _ h=>h⟩
   · exact .inr ⟨h,fun _ _ h=>h⟩
   · exact h.elim
theorem uP {i:Nat} {o:aP} {K:FSt->Prop} {s:FSt} (hi:cl[i]?=some o) (h:aOp P cl i K s):∃ y H',Yd P o y H' s/\K ⟨bT s.r o.dst y,H'⟩:=by
 unfold aOp at h
 simp only [hi] at h
 rcases fM h with ⟨h1,h2⟩|⟨h1,h2⟩
 · obtain ⟨y,G,h3,h4⟩:=aFc h1
   exact ⟨y,G,h2 _ _ h3,h4⟩
 · exact ⟨_,_,h2 _ _ ⟨rfl,rfl⟩,h1⟩
theorem qJ {i:Nat} {o:aP} {K:FSt->Prop} {s:FSt} {y:AV} {H':List AO} (hi:cl[i]?=some o) (h:Yd P o y H' s) (hk:K ⟨bT s.r o.dst y,H'⟩):aOp P cl i K s:=by
 unfold aOp
 simp only [hi]
 exact bS (oT fun a b hab=>by obtain ⟨rfl,rfl⟩:=hab;exact hk) (fun hab=>by obtain ⟨rfl,rfl⟩:=hab;exact hk) h
theorem aM3 {x:Operand} {d:Option Nat} {y:AV} (h:∀ t,d=some t->x≠ .tmp t):ev (bT r d y) x=ev r x:=by
 cases d with
 | none=>rfl
 | some t =>
   cases x with
   | tmp q =>
     have:t≠q:=fun e=>h t rfl (by rw [e])
     simp [ev,bT,this]
   | _=>rfl
theorem iB {d d':Option Nat} {y y':AV} (h:∀ t,d=some t->d'≠some t):bT (bT r d y) d' y'=bT (bT r d' y') d y:=by
 cases d with
 | none=>rfl
 | some t =>
   cases d' with
   | none=>rfl
   | some t' =>
     have:t≠t':=fun e=>h t rfl (by rw [e])
     funext q
     simp only [bT]
     by_cases h1:t=q
     · have h2:t'≠q:=fun e=>this (h1.trans e.symm)
       simp [h1,h2]
     · simp [h1]
theorem eX {o:aP} {d:Option Nat} {y:AV} (h:∀ t,d=some t->t∉o.looks):∀ x∈o.op.ops,ev (bT r d y) x=ev r x:=fun x hx =>
 aM3 fun t ht e=>by
  subst e
  exact h t ht (List.mem_append_left _ (List.mem_filterMap.2 ⟨.tmp t,hx,rfl⟩))
theorem eR {o:aP} {d:Option Nat} {y:AV} (h:∀ t,d=some t->t∉o.looks) {X Y:Prop}:cZ o.guard (bT r d y) X Y=cZ o.guard r X Y:=by
 unfold cZ
 cases hg:o.guard with
 | none=>rfl
 | some g =>
   obtain ⟨t,want⟩:=g
   have:bT r d y t=r t:=by
    cases d with
    | none=>rfl
    | some q =>
      have:q≠t:=fun e=>h q rfl (by rw [e];unfold aP.looks;rw [hg];simp)
      simp [bT,this]
   simp only [this]
theorem apart_spec {x y:aP} (h:x.apart y=true):(∀ d,x.dst=some d->d∉y.looks)/\(∀ d,x.dst=some d->y.dst≠some d)/\(∀ d,y.dst=some d->d∉x.looks)/\nB x.op.cls y.op.cls=true:=by
 simp only [aP.apart,Bool.and_eq_true] at h
 obtain ⟨⟨h1,h2⟩,h3⟩:=h
 refine ⟨fun d hd=>?_,fun d hd=>?_,fun d hd=>?_,h3⟩
 · simp [hd] at h1;exact h1.1
 · simp [hd] at h1;exact h1.2
 · simp [hd] at h2;exact h2
theorem oU {c:CO} {e:Operand->AV} {y:AV} {G:List AO} (h:opD P c e H (fun a b=>a=y/\b=G)) (hc:c.cls= .light∨c.cls= .reader∨c.cls= .call):G=H:=by
 unfold opD at h
 rcases hc with hc|hc|hc<;>rw [hc] at h<;>simp only at h
 · obtain ⟨q,_,h2⟩:=mG h.1 h.2;exact h2.2.symm
 · obtain ⟨q,_,h2⟩:=sP h;exact h2.2.symm
 · unfold iO at h
   split at h
   · obtain ⟨q,_,h2⟩:=h;exact h2.2.symm
   · split at h
     · obtain ⟨q,_,h2⟩:=h;exact h2.2.symm
     · exact h.elim
   · exact h.elim
theorem u0 {c:CO} {e:Operand->AV} {y:AV} {G G':List AO} (hc:c.cls= .light) (h:opD P c e H (fun a b=>a=y/\b=G)):opD P c e G' (fun a b=>a=y/\b=G'):=by
 unfold opD at h ⊢
 rw [hc] at h ⊢
 simp only at h ⊢
 exact ⟨h.1,fH (fun q hq=>⟨hq.1,by first|trivial|rfl⟩) h.2⟩
theorem w6 {c:CO} {e:Operand->AV} {y:AV} {G:List AO} (hc:c.cls= .alloc) (h:bQ c e H (fun a b=>a=y/\b=G)):∃ X,G=H++X:=by
 cases c<;>simp only [CO.cls,reduceCtorEq] at hc<;>simp only [bQ] at h
 case bx x=>exact ⟨_,h.2.2.symm⟩
 case al z=>exact ⟨_,h.2.2.symm⟩
 case bls z len zero ps=>exact ⟨_,h.2.2.2.2.symm⟩
 case mks z b zero l c =>
  split at h
  · exact ⟨_,h.2.2.2.2.2.2.symm⟩
  · exact h.elim
theorem aAi {c:CO} {e:Operand->AV} {y:AV} {G X:List AO} (hc:c.cls= .reader∨c.cls= .call) (h:opD P c e H (fun a b=>a=y/\b=G)):opD P c e (H++X) (fun a b=>a=y/\b=H++X):=by
 unfold opD at h ⊢
 rcases hc with hc|hc<;>rw [hc] at h ⊢ <;>simp only at h ⊢
 · exact xP (jD (fun q hq=>⟨hq.1,by first|trivial|rfl⟩) h)
 · have key:∀ f args,(∃ q,aI P f args H q/\q=y/\H=G)->∃ q,aI P f args (H++X) q/\q=y/\True:=fun f args ⟨q,h1,h2,_⟩ =>
    ⟨q,fun Z=>by rw [List.append_assoc];exact h1 (X++Z),h2,trivial⟩
   simp only [and_true] at key
   unfold iO at h ⊢
   split at h
   · simpa using key _ _ h
   · split at h
     · simpa using key _ _ h
     · exact h.elim
   · exact h.elim
theorem aNW {j:Nat} {oi oj:aP} {y:AV} {Hi:List AO} (hj:cl[j]?=some oj) (hap:oi.apart oj=true) {K:FSt->Prop} {s:FSt} (hy:Yd P oi y Hi s) (h:aOp P cl j K ⟨bT s.r oi.dst y,Hi⟩) :
 aOp P cl j (fun s'=>∃ H2,Yd P oi y H2 s'/\K ⟨bT s'.r oi.dst y,H2⟩) s:=by
 obtain ⟨h1,h2,h3,h4⟩:=apart_spec hap
 obtain ⟨yj,Hj,hyj,hk⟩:=uP hj h
 unfold Yd at hyj
 rw [eR h1,jF (eX h1)] at hyj
 have back:∀ {o:aP} {d:Option Nat} {q:AV} {X Y:Prop},(∀ t,d=some t->t∉o.looks)->cZ o.guard s.r X Y->cZ o.guard (bT s.r d q) X Y:=fun hh hg=>by rw [eR hh];exact hg
 have main:∃ H1 H2,Yd P oj yj H1 s/\Yd P oi y H2 ⟨bT s.r oj.dst yj,H1⟩/\H2=Hj:=by
  unfold Yd at hy
  rcases fM hyj with ⟨gj,gj'⟩|⟨gj,gj'⟩
  · rcases fM hy with ⟨gi,gi'⟩|⟨gi,gi'⟩
    ·
     by_cases hli:oi.op.cls= .light
     · have hHi:=oU gi (.inl hli)
       subst hHi
       refine ⟨Hj,Hj,gj' _ _ gj,back h3 (gi' _ _ ?_),rfl⟩
       rw [jF (eX h3)]
       exact u0 hli gi
     · by_cases hlj:oj.op.cls= .light
       · have hHj:=oU gj (.inl hlj)
         subst hHj
         refine ⟨s.H,Hj,gj' _ _ (u0 hlj gj),back h3 (gi' _ _ ?_),rfl⟩
         rw [jF (eX h3)]
         exact gi
       · have hri:oi.op.cls= .reader∨oi.op.cls= .call:=by
          cases hci:oi.op.cls<;>cases hcj:oj.op.cls<;>simp_all [nB]
         have hHi:=oU gi (.inr hri)
         subst hHi
         by_cases hrj:oj.op.cls= .reader∨oj.op.cls= .call
         · have hHj:=oU gj (.inr hrj)
           subst hHj
           refine ⟨_,_,gj' _ _ gj,back h3 (gi' _ _ ?_),rfl⟩
           rw [jF (eX h3)]
           exact gi
         · have haj:oj.op.cls= .alloc:=by
            cases hci:oi.op.cls<;>cases hcj:oj.op.cls<;>simp_all [nB]
           have gj2:=gj
           unfold opD at gj2
           rw [haj] at gj2
           simp only at gj2
           obtain ⟨X,rfl⟩:=w6 haj gj2
           refine ⟨_,_,gj' _ _ gj,back h3 (gi' _ _ ?_),rfl⟩
           rw [jF (eX h3)]
           exact aAi hri gi
    ·
     obtain ⟨hy0,hHi⟩:=gi
     subst hHi
     exact ⟨Hj,Hj,gj' _ _ gj,back h3 (gi' _ _ ⟨hy0,rfl⟩),rfl⟩
  ·
   obtain ⟨hy0,hHj⟩:=gj
   subst hHj
   refine ⟨s.H,Hj,gj' _ _ ⟨hy0,rfl⟩,?_,rfl⟩
   unfold Yd
   simp only
   rw [eR h3,jF (eX h3)]
   exact hy
 obtain ⟨H1,H2,m1,m2,rfl⟩:=main
 refine qJ hj m1 ⟨H2,m2,?_⟩
 rw [<- iB h2]
 exact hk
def uG (ops:Array Oper) (listed:Array Bool):Prop:=∀ j o,ops[j]?=some o->listed.getD j false=true->∀ e∈o.after,Region.binds .any e=true->listed.getD e.on false=true
def waits (ops:Array Oper) (i j:Nat):Bool:=((gN ops.toList []).getD j 0).testBit i
theorem vY {acc:List Nat} {o:Oper} {i:Nat} (h:(kO acc o).testBit i=true):∃ e∈o.after,Region.binds .any e=true/\(e.on=i∨(acc.getD e.on 0).testBit i=true):=by
 have key:∀ (l:List Edge) (m:Nat),(l.foldl (fun m e=>if Region.binds .any e then m ||| (2^e.on ||| acc.getD e.on 0) else m) m).testBit i=true ->
  m.testBit i=true∨∃ e∈l,Region.binds .any e=true/\(e.on=i∨(acc.getD e.on 0).testBit i=true):=by
  intro l
  induction l with
  | nil=>intro m hm;exact .inl hm
  | cons e l ih =>
    intro m hm
    rw [List.foldl_cons] at hm
    rcases ih _ hm with h1|⟨e',h1,h2⟩
    · split at h1
      · rename_i hb
        rw [Nat.testBit_or,Nat.testBit_or,Bool.or_eq_true,Bool.or_eq_true] at h1
        rcases h1 with h1|h1|h1
        · exact .inl h1
        · refine .inr ⟨e,List.mem_cons_self,hb,.inl ?_⟩
          rw [Nat.testBit_two_pow] at h1
          simpa using h1
        · exact .inr ⟨e,List.mem_cons_self,hb,.inr h1⟩
      · exact .inl h1
    · exact .inr ⟨e',List.mem_cons_of_mem _ h1,h2⟩
 rcases key _ _ h with h1|⟨e,h1,h2⟩
 · simp at h1
 · exact ⟨e,by simpa using h1,h2⟩
theorem p5:∀ (l:List Oper) (acc:List Nat),(∀ k,k<acc.length->(gN l acc).getD k 0=acc.getD k 0)/\(gN l acc).length=acc.length+l.length /\
 ∀ k o,l[k]?=some o->∃ acc',(∀ q,(acc'.getD q 0)=if q<acc.length+k then (gN l acc).getD q 0 else 0)/\(gN l acc).getD (acc.length+k) 0=kO acc' o
 | [],acc=>⟨fun _ _=>rfl,rfl,fun k o h=>by simp at h⟩
 | o :: r,acc=>by
   obtain ⟨h1,h2,h3⟩:=p5 r (acc++[kO acc o])
   have ha:∀ k,k<acc.length->(acc++[kO acc o]).getD k 0=acc.getD k 0:=fun k hk=>by
    rw [List.getD_eq_getElem?_getD,List.getElem?_append_left hk,<- List.getD_eq_getElem?_getD]
   simp only [gN]
   refine ⟨fun k hk=>(h1 k (by simp;omega)).trans (ha k hk),by rw [h2];simp;omega,fun k o' hk=>?_⟩
   cases k with
   | zero =>
     simp only [List.getElem?_cons_zero,Option.some.injEq] at hk
     subst hk
     refine ⟨acc,fun q=>?_,?_⟩
     · split
       · rename_i hq
         rw [h1 q (by simp;omega),ha q (by omega)]
       · rw [List.getD_eq_getElem?_getD,List.getElem?_eq_none (by omega)]
         rfl
     · rw [Nat.add_zero,h1 acc.length (by simp),List.getD_eq_getElem?_getD]
       simp
   | succ k =>
     obtain ⟨acc',g1,g2⟩:=h3 k o' (by simpa using hk)
     have e:(acc++[kO acc o]).length+k=acc.length+(k+1):=by simp;omega
     rw [e] at g1 g2
     exact ⟨acc',g1,g2⟩
theorem w8 {listed:Array Bool} {i:Nat} (hdeps:∀ j o,ops[j]?=some o->∀ e∈o.after,Region.binds .any e=true->e.on<j) (hcl:uG ops listed) (hi:listed.getD i false=false) (j:Nat) :
 (∀ o,ops[j]?=some o->∀ e∈o.after,Region.binds .any e=true->listed.getD e.on false=true)->waits ops i j=false:=by
 induction j using Nat.strongRecOn with
 | _ j ih =>
   intro h
   obtain ⟨_,hlen,hget⟩:=p5 ops.toList []
   unfold waits
   cases ho:ops[j]? with
   | none =>
     have:ops.size<=j:=Array.getElem?_eq_none_iff.1 ho
     rw [List.getD_eq_getElem?_getD,List.getElem?_eq_none (by rw [hlen];simpa using this)]
     simp
   | some o =>
     obtain ⟨acc',g1,g2⟩:=hget j o (by simpa using ho)
     rw [List.length_nil,Nat.zero_add] at g1 g2
     rw [g2,Bool.eq_false_iff]
     intro hb
     obtain ⟨e,he,hbind,hor⟩:=vY hb
     have hl:=h o ho e he hbind
     rcases hor with rfl|hor
     · rw [hi] at hl;cases hl
     · have hlt:=hdeps j o ho e he hbind
       rw [g1,if_pos hlt] at hor
       have:=ih e.on hlt (fun o' ho' e' he' hb'=>hcl _ o' ho' hl e' he' hb')
       unfold waits at this
       rw [this] at hor
       cases hor
theorem cT {listed:Array Bool} {i:Nat} (h:listed.getD i true=false):listed.getD i false=false:=by
 rw [Array.getD_eq_getD_getElem?] at h ⊢
 cases hx:listed[i]? with
 | none=>rw [hx] at h;simp at h
 | some b=>rw [hx] at h;simpa using h
theorem aAQ {listed:Array Bool} {i:Nat} (hcl:uG ops listed) (hr:i∈Region.ready .any ops listed):uG ops (listed.setIfInBounds i true):=by
 obtain ⟨hun,oi,hoi,hall⟩:=mem_ready.1 hr
 have up:∀ k,listed.getD k false=true->(listed.setIfInBounds i true).getD k false=true:=fun k hk=>by
  by_cases hki:i=k
  · subst hki
    have:=cT hun
    rw [this] at hk
    cases hk
  · rw [Array.getD_eq_getD_getElem?,Array.getElem?_setIfInBounds_ne hki,<- Array.getD_eq_getD_getElem?]
    exact hk
 intro j o ho hj e he hb
 by_cases hji:i=j
 · subst hji
   rw [hoi] at ho
   cases ho
   exact up _ (hall e he hb)
 · rw [Array.getD_eq_getD_getElem?,Array.getElem?_setIfInBounds_ne hji,<- Array.getD_eq_getD_getElem?] at hj
   exact up _ (hcl j o ho hj e he hb)
theorem aBb {Q:FSt->Prop} {i:Nat} {oi:aP} (hdeps:∀ j o,ops[j]?=some o->∀ e∈o.after,Region.binds .any e=true->e.on<j) (hi:cl[i]?=some oi) (hlen:∀ (j:Nat) (o:Oper),ops[j]?=some o->∃ c:aP,cl[j]?=some c) :
 ∀ (fuel:Nat) (listed:Array Bool) (s:FSt) (y:AV) (Hi:List AO),uG ops listed ->
   (∀ j oj,cl[j]?=some oj->j≠i->listed.getD j true=false->waits ops i j=false->oi.apart oj=true) ->
   i∈Region.ready .any ops listed->Yd P oi y Hi s->aKB P ops cl Q fuel (listed.setIfInBounds i true) ⟨bT s.r oi.dst y,Hi⟩->aKB P ops cl Q (fuel+1) listed s:=by
 intro fuel
 induction fuel with
 | zero =>
   intro listed s y Hi _ _ hr hy hA
   refine ⟨fun h=>(by rw [h] at hr;cases hr),fun j hj=>?_⟩
   by_cases hji:j=i
   · subst hji
     exact qJ hi hy hA
   · have:=ready_mono hj hji
     rw [hA.1] at this
     cases this
 | succ fuel ih =>
   intro listed s y Hi hcl hfree hr hy hA
   refine ⟨fun h=>(by rw [h] at hr;cases hr),fun j hj=>?_⟩
   by_cases hji:j=i
   · subst hji
     exact qJ hi hy hA
   · have h1:=hA.2 j (ready_mono hj hji)
     obtain ⟨hjun,oj0,hoj0,hall⟩:=mem_ready.1 hj
     obtain ⟨oj,hoj⟩:=hlen j oj0 hoj0
     have hiun:=(mem_ready.1 hr).1
     have hw:waits ops i j=false:=w8 hdeps hcl (cT hiun) _ (fun o ho e he hb=>by
      rw [hoj0] at ho
      cases ho
      exact hall e he hb)
     have h2:=aNW hoj (hfree j oj hoj hji hjun hw) hy h1
     have hfree':∀ k ok,cl[k]?=some ok->k≠i->(listed.setIfInBounds j true).getD k true=false->waits ops i k=false->oi.apart ok=true:=fun k ok hk hki hun hno=>by
      refine hfree k ok hk hki ?_ hno
      by_cases hjk:j=k
      · subst hjk;exact hjun
      · rw [getD_set_ne true hjk] at hun;exact hun
     refine aKp (fun s' ⟨H2,h3,h4⟩=>ih (listed.setIfInBounds j true) s' y H2 (aAQ hcl hj) hfree' (ready_mono hr (Ne.symm hji)) h3 ?_) h2
     rw [Array.setIfInBounds_comm _ _ hji]
     exact h4
def aE9 (P:Program):List aP->FSt->(FSt->Prop)->Prop
 | [],s,K=>K s
 | o :: l,s,K=>cZ o.guard s.r (opD P o.op (ev s.r) s.H fun y H'=>aE9 P l ⟨bT s.r o.dst y,H'⟩ K) (aE9 P l ⟨bT s.r o.dst (.tup []),s.H⟩ K)
theorem o5:∀ (l:List Oper) (k:Nat),rP l k=true->∀ j o,l[j]?=some o->∀ e∈o.after,Region.binds .any e=true->e.on<k+j
 | [],k,_,j,o,h,_,_,_=>by simp at h
 | o' :: r,k,h,j,o,hj,e,he,hb=>by
   simp only [rP,Bool.and_eq_true,List.all_eq_true] at h
   cases j with
   | zero =>
     simp only [List.getElem?_cons_zero,Option.some.injEq] at hj
     subst hj
     have:=h.1 e (by simpa using he)
     simp only [hb,Bool.not_true,Bool.false_or,decide_eq_true_eq] at this
     exact this
   | succ j =>
     have:=o5 r (k+1) h.2 j o (by simpa using hj) e he hb
     omega
theorem o4:∀ (l:List (aP×Nat)) (k:Nat),lL l k=true->∀ (i j:Nat) (x y:aP×Nat),i<j->l[i]?=some x->l[j]?=some y->y.2.testBit (k+i)=true∨x.1.apart y.1=true
 | [],k,_,i,j,x,y,_,h,_=>by simp at h
 | o :: r,k,h,i,j,x,y,hij,hi,hj=>by
   simp only [lL,Bool.and_eq_true,List.all_eq_true,Bool.or_eq_true] at h
   obtain ⟨j,rfl⟩:∃ q,j=q+1:=⟨j-1,by omega⟩
   simp only [List.getElem?_cons_succ] at hj
   cases i with
   | zero =>
     simp only [List.getElem?_cons_zero,Option.some.injEq] at hi
     subst hi
     exact h.1 y (List.mem_of_getElem? hj)
   | succ i =>
     have:=o4 r (k+1) h.2 i j x y (by omega) (by simpa using hi) hj
     rw [Nat.add_assoc,Nat.add_comm 1 i] at this
     exact this
def aGf (n k:Nat) (listed:Array Bool):Prop:=∀ j,listed.getD j true=false↔k<=j/\j<n
theorem aGf.on {n k j:Nat} {listed:Array Bool} (h:aGf n k listed) (hj:j<k) (hn:k<=n) (hs:listed.size=n):listed.getD j false=true:=by
 have h1:¬ listed.getD j true=false:=fun e=>by have:=(h j).1 e;omega
 rw [Array.getD_eq_getD_getElem?] at h1 ⊢
 rw [Array.getElem?_eq_getElem (by omega)] at h1 ⊢
 simpa using h1
theorem aGf.set {n k:Nat} {listed:Array Bool} (h:aGf n k listed) (hs:listed.size=n):aGf n (k+1) (listed.setIfInBounds k true):=fun j=>by
 by_cases hj:k=j
 · subst hj
   rw [Array.getD_eq_getD_getElem?]
   by_cases hk:k<listed.size
   · simp [hk]
     omega
   · rw [Array.getElem?_eq_none (by simp;omega)]
     simp
     omega
 · rw [getD_set_ne true hj,h j]
   omega
theorem zM {Q:FSt->Prop} (hsz:cl.length=ops.size) (hdeps:∀ j o,ops[j]?=some o->∀ e∈o.after,Region.binds .any e=true->e.on<j)
 (hfree:∀ i j oi oj,i<j->cl[i]?=some oi->cl[j]?=some oj->waits ops i j=true∨oi.apart oj=true):∀ (l:List aP) (k:Nat) (listed:Array Bool) (s:FSt),k+l.length=ops.size->(∀ j,l[j]?=cl[k+j]?)->aGf ops.size k listed->listed.size=ops.size ->
 aE9 P l s Q->aKB P ops cl Q l.length listed s
 | [],k,listed,s,hk,hl,hU,hs,h=>by
   refine ⟨?_,h⟩
   rw [List.eq_nil_iff_forall_not_mem]
   intro j hj
   have:=(hU j).1 (mem_ready.1 hj).1
   simp only [List.length_nil] at hk
   omega
 | o :: l,k,listed,s,hk,hl,hU,hs,h=>by
   have h0:cl[k]?=some o:=by simpa using (hl 0).symm
   simp only [List.length_cons] at hk
   have hst:aOp P cl k (fun s'=>aE9 P l s' Q) s:=by unfold aOp;simp only [h0];exact h
   obtain ⟨y,H',hy,hK⟩:=uP h0 hst
   have hko:ops[k]?=some (ops[k]'(by omega)):=Array.getElem?_eq_getElem (by omega)
   have hrk:k∈Region.ready .any ops listed:=mem_ready.2 ⟨(hU k).2 ⟨Nat.le_refl _,by omega⟩,_,hko,fun e he hb=>hU.on (hdeps k _ hko e he hb) (by omega) hs⟩
   have hcl:uG ops listed:=fun j o' ho' hj e he hb=>by
    have hjs:j<ops.size:=(Array.getElem?_eq_some_iff.1 ho').1
    have hjk:j<k:=by
     by_cases h1:j<k
     · exact h1
     · have:=cT ((hU j).2 ⟨by omega,hjs⟩)
       rw [this] at hj
       cases hj
    have:=hdeps j o' ho' e he hb
    exact hU.on (by omega) (by omega) hs
   refine aBb hdeps h0 (fun j o ho=>by
    have hjl:=(Array.getElem?_eq_some_iff.1 ho).1
    exact ⟨cl[j]'(by omega),List.getElem?_eq_getElem (by omega)⟩) l.length listed s y H' hcl (fun j oj hj hne hun hno=>?_) hrk hy
    (zM hsz hdeps hfree l (k+1) _ _ (by omega) (fun j=>by have:=hl (j+1);simpa [Nat.add_assoc,Nat.add_comm 1 j] using this) (hU.set hs) (by simp [hs]) hK)
   have:=(hU j).1 hun
   rcases hfree k j o oj (by omega) h0 hj with h1|h1
   · rw [hno] at h1;cases h1
   · exact h1
theorem aFp (h:aAx ops cl=true) (hsz:cl.length=ops.size):(∀ j o,ops[j]?=some o->∀ e∈o.after,Region.binds .any e=true->e.on<j) /\
 (∀ i j oi oj,i<j->cl[i]?=some oi->cl[j]?=some oj->waits ops i j=true∨oi.apart oj=true):=by
 simp only [aAx,Bool.and_eq_true] at h
 refine ⟨fun j o ho e he hb=>?_,fun i j oi oj hij hi hj=>?_⟩
 · have:=o5 _ 0 h.1 j o (by simpa using ho) e he hb
   omega
 · obtain ⟨_,hlen,_⟩:=p5 ops.toList []
   have hml:(gN ops.toList []).length=cl.length:=by rw [hlen,hsz];simp
   have hil:=(List.getElem?_eq_some_iff.1 hi).1
   have hjl:=(List.getElem?_eq_some_iff.1 hj).1
   have zi:∀ q oq,cl[q]?=some oq->(cl.zip (gN ops.toList []))[q]?=some (oq,(gN ops.toList []).getD q 0):=fun q oq hq=>by
    have hql:=(List.getElem?_eq_some_iff.1 hq).1
    rw [List.getElem?_zip_eq_some]
    refine ⟨hq,?_⟩
    rw [List.getD_eq_getElem?_getD,List.getElem?_eq_getElem (by omega)]
    rfl
   have:=o4 _ 0 h.2 i j _ _ hij (zi i oi hi) (zi j oj hj)
   rw [Nat.zero_add] at this
   exact this
theorem mO:∀ (l:List Oper) (cl:List aP),jS P ops l=some cl->cl.length=l.length/\∀ (j:Nat) (o:Oper),l[j]?=some o->∃ c,cl[j]?=some c/\aFV P ops o=some c
 | [],cl,h=>by
   simp only [jS,Option.some.injEq] at h
   subst h
   exact ⟨rfl,fun j o hj=>by simp at hj⟩
 | o :: l,cl,h=>by
   simp only [jS] at h
   split at h
   · rename_i c cl' hc hcl
     cases h
     obtain ⟨h1,h2⟩:=mO l cl' hcl
     refine ⟨by simp [h1],fun j o' hj=>?_⟩
     cases j with
     | zero=>simp at hj;subst hj;exact ⟨c,rfl,hc⟩
     | succ j=>simpa using h2 j o' (by simpa using hj)
   · cases h
theorem aF7 (c:CO):c.gX.cls=c.cls:=by cases c<;>rfl
theorem aF6 (c:CO):c.gX.ops=c.ops:=by cases c<;>rfl
theorem zJ (x y:aP):x.gX.apart y.gX=x.apart y:=by
 simp only [aP.apart,aP.gX,aP.looks,aF7,aF6]
theorem nQ:∀ (l:List aP) (ms:List Nat) (k:Nat),lL ((l.map aP.gX).zip ms) k=lL (l.zip ms) k
 | [],_,_=>rfl
 | _ :: _,[],_=>rfl
 | o :: l,m :: ms,k=>by
   simp only [List.map_cons,List.zip_cons_cons,lL,nQ l ms (k+1)]
   congr 1
   have hz:(l.map aP.gX).zip ms=(l.zip ms).map fun p=>(p.1.gX,p.2):=by
    rw [List.zip_map_left]
    rfl
   rw [hz,List.all_map]
   congr 1
   funext p
   simp only [Function.comp_def,zJ]
theorem aAw {l:List aP}:aAx ops (l.map aP.gX)=aAx ops l:=by
 unfold aAx
 rw [nQ]
theorem qH (hops:jS P ops ops.toList=some (cl.map aP.gX)) (hd:∀ o∈ops.toList,∀ t,o.dst=some t->t<N.n):∀ (fuel:Nat) (listed:Array Bool) (s:FSt) (E:Env) (a:Act) (K:FSt->Prop) (Q:Exit->Act->World->Prop),
 aKB P ops cl K fuel listed s->Match N E s.r s.H a->(∀ a' E' s',Match N E' s'.r s'.H a'->Trans E s.H.length E' s'.H.length->K s'->Q .normal a' E'.w)->wpAny P .any ops Q fuel listed a E.w
 | 0,listed,s,E,a,K,Q,h,m,hQ=>⟨h.1,hQ a E s m (Trans.refl _ _) h.2⟩
 | fuel+1,listed,s,E,a,K,Q,h,m,hQ=>by
   refine ⟨fun h0=>hQ a E s m (Trans.refl _ _) (h.1 h0),fun i hi=>?_⟩
   have h1:=h.2 i hi
   obtain ⟨_,o,ho,_⟩:=mem_ready.1 hi
   have ho':ops.toList[i]?=some o:=by simpa using ho
   obtain ⟨cb,hcb,hco⟩:=(mO _ _ hops).2 i o ho'
   rw [List.getElem?_map] at hcb
   obtain ⟨c,hc,rfl⟩:=Option.map_eq_some_iff.1 hcb
   unfold aOp at h1
   simp only [hc] at h1
   unfold wpOp
   simp only [ho]
   have hdo:=hd o (List.mem_of_getElem? ho')
   unfold aFV at hco
   split at hco
   · rename_i co g hcc hcg
     obtain ⟨d0,p0,g0⟩:=c
     simp only [aP.gX,Option.some.injEq,aP.mk.injEq] at hco
     obtain ⟨rfl,rfl,rfl⟩:=hco
     rcases mJ hcg m h1 with ⟨hw,h1⟩|⟨hw,h1⟩
     · rw [if_pos hw]
       refine .inl (sY (Kp:=fun _ _=>False) (aA2 hcc) m hdo (aAg h1) (fun a' E' y H' m' ht hk=>?_) fun _ _ _ _ _ _ _ hk=>hk.elim)
       exact qH hops hd fuel _ ⟨bT s.r o.dst y,H'⟩ E' a' K Q hk m' fun a'' E'' s'' m'' ht' hk'=>hQ a'' E'' s'' m'' (ht.trans ht') hk'
     · rw [if_neg (by rw [hw];simp)]
       have m':Match N E (bT s.r o.dst (.tup [])) s.H (a.put o.dst undef):=m.put (n:=0) hdo m.hm (Trans.refl _ _) sC
       exact qH hops hd fuel _ ⟨bT s.r o.dst (.tup []),s.H⟩ E _ K Q h1 m' hQ
   · cases hco
theorem lJ {Kp:AV->St->Prop}:∀ (l:List aP) (s:St) (K:FSt->Prop),cF P true l s (fun s'=>K ⟨s'.r.get,s'.H⟩) Kp->aE9 P l ⟨s.r.get,s.H⟩ K
 | [],s,K,h=>h
 | o :: l,s,K,h=>by
   simp only [cF,if_true] at h
   simp only [aE9]
   refine bS (oT fun y G hy=>?_) (fun hy=>?_) h
   · have:=lJ l ⟨s.r.put o.dst y,G⟩ K hy
     rwa [nC] at this
   · have:=lJ l ⟨s.r.put o.dst (.tup []),s.H⟩ K hy
     rwa [nC] at this
theorem dK.mono {P:Program} {f:FuncId} {args:List AV} {H:List AO} {Post Post' PP PP':AV->List AO->Prop} (h:dK P f args H Post PP) (hk:∀ y G,Post y G->Post' y G) (hp:∀ x G,PP x G->PP' x G):dK P f args H Post' PP' :=
 ⟨h.1,fun E vs hm hl hv=>(h.2 E vs hm hl hv).mono fun e w' q=>by
   rcases q with ⟨v,y,H',E',h1,h2,h3,h4,h5,h6⟩|⟨v,x,H',E',h1,h2,h3,h4,h5,h6⟩
   · exact .inl ⟨v,y,H',E',h1,h2,h3,h4,h5,hk _ _ h6⟩
   · exact .inr ⟨v,x,H',E',h1,h2,h3,h4,h5,hp _ _ h6⟩⟩
theorem aFb {c:CO} {e:Operand->AV} {K K' Kp Kp':AV->List AO->Prop} (hk:∀ y G,K y G->K' y G) (hp:∀ y G,Kp y G->Kp' y G) (h:oS P c e H K Kp):oS P c e H K' Kp':=by
 unfold oS at h ⊢
 split at h
 · split at h
   · exact hp _ _ h
   · exact h.elim
 · split at h
   · exact fH (fun y hy=>hk _ _ hy) h
   · exact jD (fun y hy=>hk _ _ hy) h
   · exact lC hk h
   · exact lC hk h
   · unfold iO at h ⊢
     split at h
     · exact h.mono hk hp
     · split at h
       · exact h.mono hk hp
       · exact h.elim
     · exact h.elim
theorem aGD {c:CO} {e:Operand->AV} {K K':AV->List AO->Prop} (hk:∀ y G,K y G->K' y G) (h:spK P c e H K):spK P c e H K':=by
 cases c<;>try exact h.elim
 case sle z x lo hi =>
  simp only [spK,aGK] at h ⊢
  split at h
  · refine ⟨h.1,?_⟩
    have h:=h.2
    unfold aQo at h ⊢
    split at h
    · exact ⟨h.1,iD (fun _ hz=>⟨hz.1,iD (fun _ hq=>⟨hq.1,hk _ _ hq.2⟩) hz.2⟩) h.2⟩
    · exact h.elim
  · exact h.elim
 case xcl f args =>
  intro E vs hm hl hv
  obtain ⟨v,y,E',H',h1,h2,h3,h4,h5⟩:=h E vs hm hl hv
  exact ⟨v,y,E',H',h1,h2,h3,h4,hk _ _ h5⟩
 case mvx x =>
  simp only [spK,aHW] at h ⊢
  split at h
  · unfold aRm at h ⊢
    split at h
    · exact ⟨h.1,fun c h1 h2=>hk _ _ (h.2 c h1 h2)⟩
    · exact h.elim
  · exact hk _ _ h
  · exact h.elim
 case agz z b zero s x g =>
  simp only [spK,aA9] at h ⊢
  split at h
  · refine ⟨h.1,h.2.1,?_⟩
    have h:=h.2.2
    split at h
    · exact ⟨h.1,h.2.1,hk _ _ h.2.2⟩
    · exact h.elim
  · exact h.elim
 case apin z b s x=>exact lC (c:=.apin z b s x) hk h
 case iab z x i=>exact fH (c:=.iab z x i) (K:=fun y=>K y H) (K':=fun y=>K' y H) (fun y hy=>hk _ _ hy) h
 case sap z b s x =>
  intro o E a h1 h2 h3
  obtain ⟨v,y,E',H',g1,g2,g3,g4,g5⟩:=h o E a h1 h2 h3
  exact ⟨v,y,E',H',g1,g2,g3,g4,hk _ _ g5⟩
 case sbl z len zero ps =>
  intro o E a h1 h2 h3
  obtain ⟨v,y,E',H',g1,g2,g3,g4,g5⟩:=h o E a h1 h2 h3
  exact ⟨v,y,E',H',g1,g2,g3,g4,hk _ _ g5⟩
 case calf f args =>
  obtain ⟨p,h1,h2⟩:=h
  exact ⟨p,h1,fun y hy=>hk _ _ (h2 y hy)⟩
theorem gM {c:CO} {e:Operand->AV} {K K' Kp Kp':AV->List AO->Prop} (hk:∀ y G,K y G->K' y G) (hp:∀ y G,Kp y G->Kp' y G) (h:opK P c e H K Kp):opK P c e H K' Kp':=by
 cases hs:c.sp
 · rw [kT hs] at h ⊢
   exact aFb hk hp h
 · rw [aAf hs] at h ⊢
   exact aGD hk h
theorem aAh {c:CO} {e e':Operand->AV} {K Kp:AV->List AO->Prop} (h:∀ x∈c.ops,e x=e' x):oS P c e H K Kp=oS P c e' H K Kp:=by
 unfold oS
 split
 · rename_i x
   rw [h x (by simp [CO.ops])]
 · split
   · rw [j4 h]
   · exact nW h
   · exact jW h
   · exact jW h
   · unfold iO
     cases c<;>try rfl
     · rename_i f args _ _
       simp only [CO.ops] at h
       simp only
       rw [List.map_congr_left (fun x hx=>h x hx)]
     · rename_i x args _ _
       simp only [CO.ops] at h
       simp only
       rw [h x (by simp),List.map_congr_left (fun y hy=>h y (by simp [hy]))]
theorem nA {c:CO} {e e':Operand->AV} {K Kp:AV->List AO->Prop} (h:∀ x∈c.ops,e x=e' x):opK P c e H K Kp=opK P c e' H K Kp:=by
 cases hs:c.sp
 · rw [kT hs,kT hs]
   exact aAh h
 · rw [aAf hs,aAf hs]
   have opt_congr:∀ o:Option Operand,(∀ x∈o.toList,e x=e' x)->o.map e=o.map e':=fun o ho=>by
    cases o with
    | none=>rfl
    | some x=>simp only [Option.map_some,ho x (by simp)]
   cases c<;>try rfl
   case sle z x lo hi =>
    simp only [CO.ops] at h
    simp only [spK]
    rw [h x (by simp),opt_congr lo (fun y hy=>h y (by simp at hy;simp [hy])),opt_congr hi (fun y hy=>h y (by simp at hy;simp [hy]))]
   case xcl f args =>
    simp only [CO.ops] at h
    simp only [spK]
    rw [List.map_congr_left (fun x hx=>h x hx)]
   case calf f args =>
    simp only [CO.ops] at h
    simp only [spK]
    rw [List.map_congr_left (fun x hx=>h x hx)]
   case mvx x=>simp only [spK];rw [h x (by simp [CO.ops])]
   case agz z b zero s x g=>simp only [spK];rw [h s (by simp [CO.ops]),h x (by simp [CO.ops]),h g (by simp [CO.ops])]
   case apin z b s x=>exact jW (c:=.apin z b s x) h
   case iab z x i=>simp only [spK];exact j4 (c:=.iab z x i) h
   case sap z b s x =>
    have h:∀ q∈CO.ops (.app z b s x),e q=e' q:=h
    have key:∀ {e e':Operand->AV},(∀ q∈CO.ops (.app z b s x),e q=e' q)->nU P (.app z b s x) e H K->nU P (.app z b s x) e' H K:=fun hee q o E a h1 h2 h3=>q o E a h1 h2 fun v hv=>by rw [hee v hv];exact h3 v hv
    exact propext ⟨key h,key fun q hq=>(h q hq).symm⟩
   case sbl z len zero ps =>
    have key:∀ {e e':Operand->AV},(∀ x∈CO.ops (.bls z len zero ps),e x=e' x)->nU P (.bls z len zero ps) e H K->nU P (.bls z len zero ps) e' H K:=fun hee q o E a h1 h2 h3=>q o E a h1 h2 fun x hx=>by rw [hee x hx];exact h3 x hx
    exact propext ⟨key h,key fun x hx=>(h x hx).symm⟩
def iS (P:Program) (cl:List aP) (i:Nat) (K:FSt->Prop) (Kp:AV->FSt->Prop) (s:FSt):Prop :=
 match cl[i]? with
 | none=>K s
 | some o=>cZ o.guard s.r (opK P o.op (ev s.r) s.H (fun y H'=>K ⟨bT s.r o.dst y,H'⟩) fun x H'=>Kp x ⟨s.r,H'⟩) (K ⟨bT s.r o.dst (.tup []),s.H⟩)
def lB (P:Program) (ops:Array Oper) (cl:List aP) (Q:FSt->Prop) (Kp:AV->FSt->Prop):Nat->Array Bool->FSt->Prop
 | 0,listed,s=>Region.ready .any ops listed=[]/\Q s
 | fuel+1,listed,s=>(Region.ready .any ops listed=[]->Q s)/\∀ i∈Region.ready .any ops listed,iS P cl i (lB P ops cl Q Kp fuel (listed.setIfInBounds i true)) Kp s
def y7 (c:CO) (e:Operand->AV) (y:AV):Prop :=
 match c with
 | .ld n agg x=>(match e x with
   | .ip _ cs=>n<=cs.length/\(agg=true∨n=1)/\y=partOf cs 0 n agg
   | _=>False)
 | c=>c.cls= .light/\bH c e (· =y)
theorem kU {c:CO} {e:Operand->AV} {K Kp:AV->List AO->Prop} (h:c.cls= .light):opK P c e H K Kp=bH c e fun y=>K y H:=by
 cases c<;>first|rfl|simp [CO.cls] at h
theorem aID {c:CO} {e:Operand->AV} {y:AV} {K Kp:AV->List AO->Prop} (h:y7 c e y) (hk:K y H):opK P c e H K Kp:=by
 unfold y7 at h
 split at h
 · rename_i n agg x
   split at h
   · rename_i t cs he
     have e1:opK P (.ld n agg x) e H K Kp=cP (.ld n agg x) e H fun y=>K y H:=rfl
     rw [e1]
     simp only [cP,he]
     exact ⟨h.1,h.2.1,h.2.2 ▸ hk⟩
   · exact h.elim
 · rename_i c' hne
   rw [kU h.1]
   exact fH (fun q hq=>by subst hq;exact hk) h.2
theorem aAO {c:CO} {e e':Operand->AV} {y:AV} (h:∀ x∈c.ops,e x=e' x):y7 c e y=y7 c e' y:=by
 unfold y7
 split
 · rename_i n agg x
   rw [h x (by simp [CO.ops])]
 · rw [j4 h]
def Ey (o:aP) (y:AV) (r:Nat->AV):Prop:=cZ o.guard r (y7 o.op (ev r) y) (y= .tup [])
theorem uC {i:Nat} {oi:aP} {y:AV} {K:FSt->Prop} {Kp:AV->FSt->Prop} {s:FSt} (hi:cl[i]?=some oi) (hy:Ey oi y s.r) (hk:K ⟨bT s.r oi.dst y,s.H⟩):iS P cl i K Kp s:=by
 unfold iS
 simp only [hi]
 exact bS (fun h=>aID h hk) (fun h=>by subst h;exact hk) hy
theorem nJ {i:Nat} {K K':FSt->Prop} {Kp:AV->FSt->Prop} {s:FSt} (hk:∀ s,K s->K' s) (h:iS P cl i K Kp s):iS P cl i K' Kp s:=by
 unfold iS at h ⊢
 split at h
 · exact hk _ h
 · exact bS (gM (fun y G=>hk _) fun _ _ h=>h) (hk _) h
theorem mC {x y:aP} (h:x.kQ y=true):(∀ d,x.dst=some d->d∉y.looks)/\(∀ d,x.dst=some d->y.dst≠some d)/\(∀ d,y.dst=some d->d∉x.looks):=by
 simp only [aP.kQ,Bool.and_eq_true] at h
 obtain ⟨h1,h2⟩:=h
 refine ⟨fun d hd=>?_,fun d hd=>?_,fun d hd=>?_⟩
 · simp [hd] at h1;exact h1.1
 · simp [hd] at h1;exact h1.2
 · simp [hd] at h2;exact h2
theorem aGe {j:Nat} {oi oj:aP} {y:AV} (hj:cl[j]?=some oj) (hap:(∀ d,oi.dst=some d->d∉oj.looks)/\(∀ d,oi.dst=some d->oj.dst≠some d)/\(∀ d,oj.dst=some d->d∉oi.looks)) {K:FSt->Prop} {Kp:AV->FSt->Prop} {s:FSt} (hins:∀ x r G,Kp x ⟨bT r oi.dst y,G⟩->Kp x ⟨r,G⟩)
 (hy:Ey oi y s.r) (h:iS P cl j K Kp ⟨bT s.r oi.dst y,s.H⟩):iS P cl j (fun s'=>Ey oi y s'.r/\K ⟨bT s'.r oi.dst y,s'.H⟩) Kp s:=by
 obtain ⟨h1,h2,h3⟩:=hap
 unfold iS at h ⊢
 simp only [hj] at h ⊢
 rw [eR h1,nA (eX h1)] at h
 have back:∀ q,Ey oi y (bT s.r oj.dst q):=fun q=>by
  unfold Ey
  rw [eR h3,aAO (eX h3)]
  exact hy
 refine bS (gM (fun q G hk=>⟨back q,?_⟩) fun _ _ h=>hins _ _ _ h) (fun hk=>⟨back _,?_⟩) h
 · rw [<- iB h2]
   exact hk
 · rw [<- iB h2]
   exact hk
theorem rD {Q:FSt->Prop} {Kp:AV->FSt->Prop} {i:Nat} {oi:aP} (hins:∀ x r G y,Kp x ⟨bT r oi.dst y,G⟩->Kp x ⟨r,G⟩) (hi:cl[i]?=some oi) (hlen:∀ (j:Nat) (o:Oper),ops[j]?=some o->∃ c:aP,cl[j]?=some c)
 (hfree:∀ j oj pi pj,cl[j]?=some oj->ops[i]?=some pi->ops[j]?=some pj->j≠i->eK pj i=true∨eK pi j=true∨((∀ d,oi.dst=some d->d∉oj.looks)/\(∀ d,oi.dst=some d->oj.dst≠some d)/\(∀ d,oj.dst=some d->d∉oi.looks))) :
 ∀ (fuel:Nat) (listed:Array Bool) (s:FSt) (y:AV),i∈Region.ready .any ops listed->Ey oi y s.r->lB P ops cl Q Kp fuel (listed.setIfInBounds i true) ⟨bT s.r oi.dst y,s.H⟩->lB P ops cl Q Kp (fuel+1) listed s:=by
 intro fuel
 induction fuel with
 | zero =>
   intro listed s y hr hy hA
   refine ⟨fun h=>(by rw [h] at hr;cases hr),fun j hj=>?_⟩
   by_cases hji:j=i
   · subst hji
     exact uC hi hy hA
   · have:=ready_mono hj hji
     rw [hA.1] at this
     cases this
 | succ fuel ih =>
   intro listed s y hr hy hA
   refine ⟨fun h=>(by rw [h] at hr;cases hr),fun j hj=>?_⟩
   by_cases hji:j=i
   · subst hji
     exact uC hi hy hA
   · have h1:=hA.2 j (ready_mono hj hji)
     obtain ⟨hjun,pj,hpj,hallj⟩:=mem_ready.1 hj
     obtain ⟨hiun,pi,hpi,halli⟩:=mem_ready.1 hr
     obtain ⟨oj,hoj⟩:=hlen j pj hpj
     have hap:(∀ d,oi.dst=some d->d∉oj.looks)/\(∀ d,oi.dst=some d->oj.dst≠some d)/\(∀ d,oj.dst=some d->d∉oi.looks):=by
      have no:∀ (p:Oper) (k:Nat),(∀ e∈p.after,Region.binds .any e=true->listed.getD e.on false=true)->listed.getD k true=false->¬ eK p k=true:=fun p k hall hun hb=>by
       unfold eK at hb
       obtain ⟨e,he,hb⟩:=List.any_eq_true.1 hb
       simp only [Bool.and_eq_true,beq_iff_eq] at hb
       have:=hall e (by simpa using he) hb.1
       rw [hb.2,cT hun] at this
       cases this
      rcases hfree j oj pi pj hoj hpi hpj hji with g|g|g
      · exact absurd g (no pj i hallj hiun)
      · exact absurd g (no pi j halli hjun)
      · exact g
     refine nJ (fun s' ⟨h3,h4⟩=>ih (listed.setIfInBounds j true) s' y (ready_mono hr (Ne.symm hji)) h3 ?_) (aGe hoj hap (fun x r G=>hins x r G y) hy h1)
     rw [Array.setIfInBounds_comm _ _ hji]
     exact h4
def sX (P:Program):List aP->FSt->(FSt->Prop)->(AV->FSt->Prop)->Prop
 | [],s,K,_=>K s
 | o :: l,s,K,Kp=>cZ o.guard s.r (opK P o.op (ev s.r) s.H (fun y H'=>sX P l ⟨bT s.r o.dst y,H'⟩ K Kp) fun x H'=>Kp x ⟨s.r,H'⟩) (sX P l ⟨bT s.r o.dst (.tup []),s.H⟩ K Kp)
def l7 (P:Program):OT->FSt->(FSt->Prop)->(AV->FSt->Prop)->Prop
 | .fin l,s,K,Kp=>sX P l s K Kp
 | .pre l a b,s,K,Kp=>sX P l s (fun s'=>l7 P a s' K Kp/\l7 P b s' K Kp) Kp
theorem jE {o:aP} {t:OT} {s:FSt} {K:FSt->Prop} {Kp:AV->FSt->Prop} (h:l7 P (t.cons o) s K Kp) :
 cZ o.guard s.r (opK P o.op (ev s.r) s.H (fun y H'=>l7 P t ⟨bT s.r o.dst y,H'⟩ K Kp) fun x H'=>Kp x ⟨s.r,H'⟩) (l7 P t ⟨bT s.r o.dst (.tup []),s.H⟩ K Kp):=by
 cases t<;>exact h
theorem vO:∀ {l:List (Option OT)} {t:OT} {s:FSt} {K:FSt->Prop} {Kp:AV->FSt->Prop},aA7 l=some t->l7 P t s K Kp->∀ x∈l,∃ t',x=some t'/\l7 P t' s K Kp
 | [],t,s,K,Kp,h,_,x,hx=>by cases hx
 | [a],t,s,K,Kp,h,h2,x,hx=>by
   obtain rfl:x=a:=by simpa using hx
   exact ⟨t,h,h2⟩
 | a :: b :: r,t,s,K,Kp,h,h2,x,hx=>by
   unfold aA7 at h
   split at h
   · rename_i a' b' hb
     cases h
     simp only [l7,sX] at h2
     rcases List.mem_cons.1 hx with rfl|hx
     · exact ⟨_,rfl,h2.1⟩
     · exact vO hb h2.2 x hx
   · cases h
theorem iF {Kp:AV->St->Prop} {Kp2:AV->FSt->Prop} (hp:∀ x r G,Kp x ⟨r,G⟩->Kp2 x ⟨r.get,G⟩):∀ (l:List aP) (s:St) (K:FSt->Prop),cF P false l s (fun s'=>K ⟨s'.r.get,s'.H⟩) Kp->sX P l ⟨s.r.get,s.H⟩ K Kp2
 | [],s,K,h=>h
 | o :: l,s,K,h=>by
   simp only [cF,Bool.false_eq_true,if_false] at h
   simp only [sX]
   refine bS (gM (fun y G hy=>?_) fun _ _ h=>hp _ _ _ h) (fun hy=>?_) h
   · have:=iF hp l ⟨s.r.put o.dst y,G⟩ K hy
     rwa [nC] at this
   · have:=iF hp l ⟨s.r.put o.dst (.tup []),s.H⟩ K hy
     rwa [nC] at this
theorem mE {Kp:AV->St->Prop} {Kp2:AV->FSt->Prop} (hp:∀ x r G,Kp x ⟨r,G⟩->Kp2 x ⟨r.get,G⟩):∀ (t:OT) (s:St) (K:FSt->Prop),otK P t s (fun s'=>K ⟨s'.r.get,s'.H⟩) Kp->l7 P t ⟨s.r.get,s.H⟩ K Kp2
 | .fin l,s,K,h=>iF hp l s K h
 | .pre l a b,s,K,h=>iF hp l s (fun s'=>l7 P a s' K Kp2/\l7 P b s' K Kp2) (by
     simp only [otK] at h
     have key:∀ (l:List aP) (s:St) {X Y:St->Prop},(∀ s,X s->Y s)->cF P false l s X Kp->cF P false l s Y Kp:=by
      intro l
      induction l with
      | nil=>intro s X Y hk h;exact hk s h
      | cons o l ih =>
        intro s X Y hk h
        simp only [cF,Bool.false_eq_true,if_false] at h ⊢
        exact bS (gM (fun y G=>ih _ hk) fun _ _ h=>h) (ih _ hk) h
     exact key l s (fun s' h'=>⟨mE hp a s' K h'.1,mE hp b s' K h'.2⟩) h)
theorem aWV {o:aP} {X:FSt->Prop} {Kp:AV->List AO->Prop} {s:FSt} (he:eager o=true) (h:cZ o.guard s.r (opK P o.op (ev s.r) s.H (fun y H'=>X ⟨bT s.r o.dst y,H'⟩) Kp) (X ⟨bT s.r o.dst (.tup []),s.H⟩)) :
 ∃ y,Ey o y s.r/\X ⟨bT s.r o.dst y,s.H⟩:=by
 rcases fM h with ⟨h1,h2⟩|⟨h1,h2⟩
 · have hl:o.op.cls= .light/\det o.op (ev s.r)=true/\(∀ n agg x,o.op≠ .ld n agg x)/\∀ x,o.op≠ .pan x:=by
    unfold eager at he
    split at he
    · cases he
    · rename_i c hne
      have hc:=of_decide_eq_true he
      refine ⟨hc,?_,(fun n agg x e=>by rw [e] at hc;cases hc),(fun x e=>by rw [e] at hc;cases hc)⟩
      unfold det
      split
      · rename_i neg x y heq;exact absurd heq (hne _ _ _ _)
      · rfl
   obtain ⟨l1,l2,l3,l4⟩:=hl
   have h3:bH o.op (ev s.r) fun y=>X ⟨bT s.r o.dst y,s.H⟩:=by
    rw [kU l1] at h1
    exact h1
   obtain ⟨y,h4,h5⟩:=mG l2 h3
   refine ⟨y,h2 _ _ ?_,h5⟩
   unfold y7
   split
   · rename_i n agg x hx;exact absurd hx (l3 _ _ _)
   · exact ⟨l1,h4⟩
 · exact ⟨_,h2 _ _ rfl,h1⟩
theorem aFO {cl:List aP} {o o':aP} {X:FSt->Prop} {Kp:AV->List AO->Prop} {s:FSt} (hs:steady cl o=some o') (h:cZ o'.guard s.r (opK P o'.op (ev s.r) s.H (fun y H'=>X ⟨bT s.r o'.dst y,H'⟩) Kp) (X ⟨bT s.r o'.dst (.tup []),s.H⟩)) :
 ∃ y,Ey o y s.r/\X ⟨bT s.r o.dst y,s.H⟩:=by
 unfold steady at hs
 split at hs
 · rename_i n agg t ho
   split at hs
   case isFalse=>cases hs
   cases hs
   rcases fM h with ⟨h1,h2⟩|⟨h1,h2⟩
   · rw [kU (by rfl)] at h1
     simp only [bH] at h1
     split at h1
     · rename_i t cs he
       refine ⟨_,h2 _ _ ?_,h1.2.2⟩
       rw [ho]
       simp only [y7,he]
       exact ⟨h1.1,h1.2.1,trivial⟩
     · exact h1.elim
   · exact ⟨_,h2 _ _ rfl,h1⟩
 · cases hs
theorem vL {o:aP} {t:OT} (h:t≠ .fin []):o∈(t.cons o).inner:=by
 cases t with
 | fin l =>
   cases l with
   | nil=>exact absurd rfl h
   | cons q l=>simp [OT.cons,OT.inner]
 | pre l a b=>simp [OT.cons,OT.inner]
theorem iC {o q:aP} {t:OT} (h:q∈t.inner):q∈(t.cons o).inner:=by
 cases t with
 | fin l =>
   cases l with
   | nil=>simp [OT.inner] at h
   | cons p l =>
     simp only [OT.cons,OT.inner,List.dropLast_cons_cons] at h ⊢
     exact List.mem_cons_of_mem _ h
 | pre l a b =>
   simp only [OT.cons,OT.inner,List.cons_append] at h ⊢
   exact List.mem_cons_of_mem _ h
theorem uA:∀ {l:List (Option OT)} {t:OT},aA7 l=some t->∀ x∈l,∀ t',x=some t'->∀ o∈t'.inner,o∈t.inner
 | [],t,h,x,hx,_,_,_,_=>by cases hx
 | [a],t,h,x,hx,t',ht',o,ho=>by
   obtain rfl:x=a:=by simpa using hx
   have h:x=some t:=h
   rw [h] at ht'
   cases ht'
   exact ho
 | a :: b :: r,t,h,x,hx,t',ht',o,ho=>by
   unfold aA7 at h
   split at h
   · rename_i a' b' hb
     cases h
     simp only [OT.inner,List.nil_append,List.mem_append]
     rcases List.mem_cons.1 hx with rfl|hx
     · cases ht'
       exact .inl ho
     · exact .inr (uA hb x hx t' ht' o ho)
   · cases h
theorem aNk {o:aP} {t:OT}:t.cons o≠ .fin []:=by cases t<;>simp [OT.cons]
theorem uW:∀ {fuel bud:Nat} {listed:Array Bool},sched ops cl fuel bud listed=some (.fin [])->Region.ready .any ops listed=[]
 | 0,bud,listed,h=>by
   unfold sched at h
   split at h
   · assumption
   · cases h
 | fuel+1,bud,listed,h=>by
   have no:∀ {x:Option OT} {o:aP},x.map (OT.cons o)≠some (.fin []):=fun {x o} e=>by
    obtain ⟨a,_,ha⟩:=Option.map_eq_some_iff.1 e
    exact aNk ha
   unfold sched at h
   split at h
   · assumption
   · rename_i i r hr
     split at h
     · exact absurd h no
     · rename_i hr0
       split at h
       · exact absurd h no
       · split at h
         · exact absurd h no
         · split at h
           · exact absurd h no
           split at h
           · exact absurd h no
           split at h
           · cases h
           · exfalso
             obtain ⟨q,r',rfl⟩:=List.exists_cons_of_ne_nil hr0
             simp only [List.map_cons,aA7] at h
             split at h
             · cases h
             · cases h
theorem y8 {o:aP} (h:eager o=true):o.op.cls= .light:=by
 unfold eager at h
 split at h
 · cases h
 · exact of_decide_eq_true h
theorem vZ {cl:List aP} {o o':aP} (h:steady cl o=some o'):o'.op.cls= .light/\o'.dst=o.dst:=by
 unfold steady at h
 split at h
 · split at h
   · cases h;exact ⟨rfl,rfl⟩
   · cases h
 · cases h
def lS (ops:Array Oper) (listed:Array Bool):Prop:=∀ m o,listed.getD m false=true->ops[m]?=some o->∀ e∈o.after,Region.binds .any e=true->listed.getD e.on false=true
theorem dL {listed:Array Bool} {i:Nat} (h:lS ops listed) (hi:i∈Region.ready .any ops listed):lS ops (listed.setIfInBounds i true):=by
 intro m o hm ho e he hb
 obtain ⟨_,oi,hoi,hall⟩:=mem_ready.1 hi
 by_cases hmi:m=i
 · subst hmi
   rw [hoi] at ho
   cases ho
   exact getD_set_true (hall e he hb)
 · rw [getD_set_ne false (Ne.symm hmi)] at hm
   exact getD_set_true (h m o hm ho e he hb)
theorem zC {n:Nat}:lS ops (Array.replicate n false):=by
 intro m o hm
 rw [Array.getD_eq_getD_getElem?,Array.getElem?_replicate] at hm
 split at hm<;>cases hm
theorem qL {j:Nat} {listed:Array Bool} (hc:lS ops listed) {k:Nat} (hk:k∈sA ops j) (hr:k∈Region.ready .any ops listed):listed.getD j false=true:=by
 have key:∀ (l:List Nat) (D:List Nat),(∀ k∈D,∃ o,ops[k]?=some o/\((∀ e∈o.after,Region.binds .any e=true->listed.getD e.on false=true)->listed.getD j false=true)) ->
  ∀ k∈l.foldl (fun D k=>match ops[k]? with
    | some o=>if o.after.toList.any fun e=>Region.binds .any e&&(e.on==j||D.contains e.on) then k :: D else D
    | none=>D) D,∃ o,ops[k]?=some o/\((∀ e∈o.after,Region.binds .any e=true->listed.getD e.on false=true)->listed.getD j false=true):=by
  intro l
  induction l with
  | nil=>intro D h;exact h
  | cons a l ih =>
    intro D h
    rw [List.foldl_cons]
    apply ih
    cases ho:ops[a]? with
    | none=>exact h
    | some o =>
      simp only
      split
      · rename_i hany
        intro k hk
        rcases List.mem_cons.1 hk with rfl|hk
        · refine ⟨o,ho,fun hall=>?_⟩
          obtain ⟨e,he,hb⟩:=List.any_eq_true.1 hany
          simp only [Bool.and_eq_true,Bool.or_eq_true,beq_iff_eq,List.contains_iff_mem] at hb
          have hon:=hall e (by simpa using he) hb.1
          rcases hb.2 with rfl|hm
          · exact hon
          · obtain ⟨oe,hoe,hk2⟩:=h e.on hm
            exact hk2 fun e2 he2 hb2=>hc e.on oe hon hoe e2 he2 hb2
        · exact h k hk
      · exact h
 obtain ⟨_,o,ho,hall⟩:=mem_ready.1 hr
 obtain ⟨o',ho',hk2⟩:=key _ [] (fun k hk=>by cases hk) k hk
 rw [ho] at ho'
 cases ho'
 exact hk2 hall
def Er (o:aP) (y:AV) (r:Nat->AV) (H:List AO):Prop:=cZ o.guard r (cP o.op (ev r) H (· =y)) (y= .tup [])
theorem aE5 {c:CO} {e:Operand->AV} {K Kp Kp':AV->List AO->Prop} (hq:quiet c=true) (h:opK P c e H K Kp):opK P c e H (fun y G=>(∃ X,G=H++X)/\K y G) Kp':=by
 by_cases hl:c.cls= .light
 · rw [kU hl] at h ⊢
   exact fH (fun q hq=>⟨⟨[],by simp⟩,hq⟩) h
 · cases c<;>simp [quiet,hl] at hq
   case ld n agg x =>
    have h2:cP (.ld n agg x) e H fun y=>K y H:=h
    show cP (.ld n agg x) e H fun y=>(∃ X,H=H++X)/\K y H
    exact jD (c:=.ld n agg x) (fun q hq=>⟨⟨[],by simp⟩,hq⟩) h2
   case calf f args =>
    obtain ⟨p,h1,h2⟩:=h
    exact ⟨p,h1,fun y hy=>⟨⟨[],by simp⟩,h2 y hy⟩⟩
   case al zero=>exact ⟨h.1,⟨_,rfl⟩,h.2⟩
   case bx x=>exact ⟨h.1,⟨_,rfl⟩,h.2⟩
   case bls z len zero ps=>exact ⟨h.1,h.2.1,h.2.2.1,⟨_,rfl⟩,h.2.2.2⟩
theorem aE4 {n:Nat} {agg:Bool} {x:Operand} {e:Operand->AV} {K:AV->Prop} {X:List AO} (h:cP (.ld n agg x) e H K):cP (.ld n agg x) e (H++X) K:=by
 simp only [cP] at h ⊢
 split at h
 · split at h
   · rename_i hi
     rw [List.getElem?_append_left (List.getElem?_eq_some_iff.1 hi).1,hi]
     exact h
   · rename_i hi
     rw [List.getElem?_append_left (List.getElem?_eq_some_iff.1 hi).1,hi]
     exact h
   · exact h.elim
 · exact h
 · exact h.elim
theorem aFw {c:CO} {e:Operand->AV} {K:AV->Prop} {X:List AO} (hl:s9 c=true) (h:cP c e H K):cP c e (H++X) K:=by
 cases c<;>simp [s9] at hl
 exact aE4 h
def AlE (P:Program) (c:CO) (e:Operand->AV) (H:List AO) (y:AV) (o:AO):Prop:=∀ K Kp:AV->List AO->Prop,K y (H++[o])->opK P c e H K Kp
theorem aAB {c:CO} {e:Operand->AV} {K Kp:AV->List AO->Prop} (hi:aSe c=true) (h:opK P c e H K Kp):∃ y o,AlE P c e H y o/\K y (H++[o]):=by
 cases c<;>simp [aSe] at hi
 case al zero=>exact ⟨_,_,fun K' Kp' hk=>⟨h.1,hk⟩,h.2⟩
 case bx x=>exact ⟨_,_,fun K' Kp' hk=>⟨h.1,hk⟩,h.2⟩
 case bls z len zero ps=>exact ⟨_,_,fun K' Kp' hk=>⟨h.1,h.2.1,h.2.2.1,hk⟩,h.2.2.2⟩
theorem aJX {c:CO} {e:Operand->AV} {K K' Kp Kp':AV->List AO->Prop} {G:List AO} (hq:calm c=true) (hk:∀ y,K y G->K' y H) (h:opK P c e G K Kp):opK P c e H K' Kp':=by
 by_cases hl:c.cls= .light
 · rw [kU hl] at h ⊢
   exact fH hk h
 · cases c<;>simp [calm,hl] at hq
   case calf f args =>
    obtain ⟨p,h1,h2⟩:=h
    exact ⟨p,h1,fun y hy=>hk y (h2 y hy)⟩
theorem aAA {c:CO} {e:Operand->AV} {K Kp:AV->List AO->Prop} (hi:s9 c=true) (h:opK P c e H K Kp):∃ y,cP c e H (· =y)/\K y H:=by
 cases c<;>simp [s9] at hi
 rename_i n agg x
 have h2:cP (.ld n agg x) e H fun y=>K y H:=h
 simp only [cP] at h2 ⊢
 split at h2
 · split at h2
   · exact ⟨_,⟨h2.1,h2.2.1,h2.2.2.1,rfl⟩,h2.2.2.2⟩
   · exact ⟨_,⟨h2.1,h2.2.1,h2.2.2.1,rfl⟩,h2.2.2.2⟩
   · exact h2.elim
 · exact ⟨_,⟨h2.1,h2.2.1,rfl⟩,h2.2.2⟩
 · exact h2.elim
theorem aIh {c:CO} {e:Operand->AV} {K Kp:AV->List AO->Prop} {y:AV} (hi:s9 c=true) (h:cP c e H (· =y)) (hk:K y H):opK P c e H K Kp:=by
 cases c<;>simp [s9] at hi
 rename_i n agg x
 show cP (.ld n agg x) e H fun y=>K y H
 exact jD (c:=.ld n agg x) (fun q hq=>by subst hq;exact hk) h
theorem aWX {o:aP} {X:FSt->Prop} {Kp:AV->List AO->Prop} {s:FSt} (hi:s9 o.op=true) (h:cZ o.guard s.r (opK P o.op (ev s.r) s.H (fun y H'=>X ⟨bT s.r o.dst y,H'⟩) Kp) (X ⟨bT s.r o.dst (.tup []),s.H⟩)) :
 ∃ y,Er o y s.r s.H/\X ⟨bT s.r o.dst y,s.H⟩:=by
 rcases fM h with ⟨h1,h2⟩|⟨h1,h2⟩
 · obtain ⟨y,h3,h4⟩:=aAA hi h1
   exact ⟨y,h2 _ _ h3,h4⟩
 · exact ⟨_,h2 _ _ rfl,h1⟩
theorem uD {i:Nat} {oi:aP} {y:AV} {K:FSt->Prop} {Kp:AV->FSt->Prop} {s:FSt} (hl:s9 oi.op=true) (hi:cl[i]?=some oi) (hy:Er oi y s.r s.H) (hk:K ⟨bT s.r oi.dst y,s.H⟩):iS P cl i K Kp s:=by
 unfold iS
 simp only [hi]
 exact bS (fun h=>aIh hl h hk) (fun h=>by subst h;exact hk) hy
theorem aBc {j:Nat} {oi oj:aP} {y:AV} (hj:cl[j]?=some oj) (hap:(∀ d,oi.dst=some d->d∉oj.looks)/\(∀ d,oi.dst=some d->oj.dst≠some d)/\(∀ d,oj.dst=some d->d∉oi.looks)) {K:FSt->Prop} {Kp:AV->FSt->Prop} {s:FSt} (hl:s9 oi.op=true) (hq:quiet oj.op=true)
 (hy:Er oi y s.r s.H) (h:iS P cl j K Kp ⟨bT s.r oi.dst y,s.H⟩):iS P cl j (fun s'=>Er oi y s'.r s'.H/\K ⟨bT s'.r oi.dst y,s'.H⟩) Kp s:=by
 obtain ⟨h1,h2,h3⟩:=hap
 unfold iS at h ⊢
 simp only [hj] at h ⊢
 rw [eR h1,nA (eX h1)] at h
 have back:∀ q X,Er oi y (bT s.r oj.dst q) (s.H++X):=fun q X=>by
  unfold Er
  rw [eR h3,nW (eX h3)]
  exact bS (fun h=>aFw hl h) (fun h=>h) hy
 refine bS (fun h=>gM (fun q G hk=>?_) (fun _ _ h=>h) (aE5 hq h)) (fun hk=>⟨by simpa using back _ [],?_⟩) h
 · obtain ⟨⟨X,rfl⟩,hk⟩:=hk
   refine ⟨back q X,?_⟩
   rw [<- iB h2]
   exact hk
 · rw [<- iB h2]
   exact hk
theorem uN {Q:FSt->Prop} {Kp:AV->FSt->Prop} {i:Nat} {oi:aP} (hl:s9 oi.op=true) (hi:cl[i]?=some oi) (hlen:∀ (j:Nat) (o:Oper),ops[j]?=some o->∃ c:aP,cl[j]?=some c)
 (hfree:∀ j oj pi pj,cl[j]?=some oj->ops[i]?=some pi->ops[j]?=some pj->j≠i->eK pj i=true∨eK pi j=true∨((∀ d,oi.dst=some d->d∉oj.looks)/\(∀ d,oi.dst=some d->oj.dst≠some d)/\(∀ d,oj.dst=some d->d∉oi.looks))) :
 ∀ (fuel:Nat) (listed:Array Bool) (s:FSt) (y:AV),lS ops listed->(∀ k ok,cl[k]?=some ok->k≠i->listed.getD k true=true∨quiet ok.op=true∨k∈sA ops i)->i∈Region.ready .any ops listed->Er oi y s.r s.H->lB P ops cl Q Kp fuel (listed.setIfInBounds i true) ⟨bT s.r oi.dst y,s.H⟩->lB P ops cl Q Kp (fuel+1) listed s:=by
 intro fuel
 induction fuel with
 | zero =>
   intro listed s y hc hq hr hy hA
   refine ⟨fun h=>(by rw [h] at hr;cases hr),fun j hj=>?_⟩
   by_cases hji:j=i
   · subst hji
     exact uD hl hi hy hA
   · have:=ready_mono hj hji
     rw [hA.1] at this
     cases this
 | succ fuel ih =>
   intro listed s y hc hq hr hy hA
   refine ⟨fun h=>(by rw [h] at hr;cases hr),fun j hj=>?_⟩
   by_cases hji:j=i
   · subst hji
     exact uD hl hi hy hA
   · have h1:=hA.2 j (ready_mono hj hji)
     obtain ⟨hjun,pj,hpj,hallj⟩:=mem_ready.1 hj
     obtain ⟨hiun,pi,hpi,halli⟩:=mem_ready.1 hr
     obtain ⟨oj,hoj⟩:=hlen j pj hpj
     have hap:(∀ d,oi.dst=some d->d∉oj.looks)/\(∀ d,oi.dst=some d->oj.dst≠some d)/\(∀ d,oj.dst=some d->d∉oi.looks):=by
      have no:∀ (p:Oper) (k:Nat),(∀ e∈p.after,Region.binds .any e=true->listed.getD e.on false=true)->listed.getD k true=false->¬ eK p k=true:=fun p k hall hun hb=>by
       unfold eK at hb
       obtain ⟨e,he,hb⟩:=List.any_eq_true.1 hb
       simp only [Bool.and_eq_true,beq_iff_eq] at hb
       have:=hall e (by simpa using he) hb.1
       rw [hb.2,cT hun] at this
       cases this
      rcases hfree j oj pi pj hoj hpi hpj hji with g|g|g
      · exact absurd g (no pj i hallj hiun)
      · exact absurd g (no pi j halli hjun)
      · exact g
     have hqj:quiet oj.op=true:=by
      rcases hq j oj hoj hji with g|g|g
      · rw [hjun] at g;cases g
      · exact g
      · have:=qL hc g hj
        rw [cT hiun] at this
        cases this
     refine nJ (fun s' ⟨h3,h4⟩=>ih (listed.setIfInBounds j true) s' y (dL hc hj) (fun k ok hk hki=>?_) (ready_mono hr (Ne.symm hji)) h3 ?_) (aBc hoj hap hl hqj hy h1)
     · rcases hq k ok hk hki with g|g
       · refine .inl ?_
         by_cases hkj:k=j
         · subst hkj
           rw [hjun] at g;cases g
         · rw [getD_set_ne true (Ne.symm hkj)]
           exact g
       · exact .inr g
     · rw [Array.setIfInBounds_comm _ _ hji]
       exact h4
theorem aBd {j:Nat} {oi oj:aP} {y:AV} {o:AO} (hj:cl[j]?=some oj) (hap:(∀ d,oi.dst=some d->d∉oj.looks)/\(∀ d,oi.dst=some d->oj.dst≠some d)/\(∀ d,oj.dst=some d->d∉oi.looks)) {K:FSt->Prop} {Kp:AV->FSt->Prop} {s:FSt} (hq:calm oj.op=true)
 (hy:AlE P oi.op (ev s.r) s.H y o) (h:iS P cl j K Kp ⟨bT s.r oi.dst y,s.H++[o]⟩):iS P cl j (fun s'=>AlE P oi.op (ev s'.r) s'.H y o/\K ⟨bT s'.r oi.dst y,s'.H++[o]⟩) Kp s:=by
 obtain ⟨h1,h2,h3⟩:=hap
 unfold iS at h ⊢
 simp only [hj] at h ⊢
 rw [eR h1,nA (eX h1)] at h
 have back:∀ q,AlE P oi.op (ev (bT s.r oj.dst q)) s.H y o:=fun q K' Kp' hk=>by
  rw [nA (eX h3)]
  exact hy K' Kp' hk
 refine bS (fun h=>aJX hq (fun q hk=>⟨back q,?_⟩) h) (fun hk=>⟨back _,?_⟩) h
 · rw [<- iB h2]
   exact hk
 · rw [<- iB h2]
   exact hk
theorem uO {Q:FSt->Prop} {Kp:AV->FSt->Prop} {i:Nat} {oi:aP} (hg:oi.guard=none) (hi:cl[i]?=some oi) (hlen:∀ (j:Nat) (o:Oper),ops[j]?=some o->∃ c:aP,cl[j]?=some c)
 (hfree:∀ j oj pi pj,cl[j]?=some oj->ops[i]?=some pi->ops[j]?=some pj->j≠i->eK pj i=true∨eK pi j=true∨((∀ d,oi.dst=some d->d∉oj.looks)/\(∀ d,oi.dst=some d->oj.dst≠some d)/\(∀ d,oj.dst=some d->d∉oi.looks))) :
 ∀ (fuel:Nat) (listed:Array Bool) (s:FSt) (y:AV) (o:AO),lS ops listed->(∀ k ok,cl[k]?=some ok->k≠i->listed.getD k true=true∨calm ok.op=true∨k∈sA ops i)->i∈Region.ready .any ops listed->AlE P oi.op (ev s.r) s.H y o->lB P ops cl Q Kp fuel (listed.setIfInBounds i true) ⟨bT s.r oi.dst y,s.H++[o]⟩->lB P ops cl Q Kp (fuel+1) listed s:=by
 have here:∀ (s:FSt) (y:AV) (o:AO) (K:FSt->Prop),AlE P oi.op (ev s.r) s.H y o->K ⟨bT s.r oi.dst y,s.H++[o]⟩->iS P cl i K Kp s:=fun s y o K hy hk=>by
  unfold iS
  simp only [hi,hg,cZ]
  exact hy _ _ hk
 intro fuel
 induction fuel with
 | zero =>
   intro listed s y o hc hq hr hy hA
   refine ⟨fun h=>(by rw [h] at hr;cases hr),fun j hj=>?_⟩
   by_cases hji:j=i
   · subst hji
     exact here s y o _ hy hA
   · have:=ready_mono hj hji
     rw [hA.1] at this
     cases this
 | succ fuel ih =>
   intro listed s y o hc hq hr hy hA
   refine ⟨fun h=>(by rw [h] at hr;cases hr),fun j hj=>?_⟩
   by_cases hji:j=i
   · subst hji
     exact here s y o _ hy hA
   · have h1:=hA.2 j (ready_mono hj hji)
     obtain ⟨hjun,pj,hpj,hallj⟩:=mem_ready.1 hj
     obtain ⟨hiun,pi,hpi,halli⟩:=mem_ready.1 hr
     obtain ⟨oj,hoj⟩:=hlen j pj hpj
     have hap:(∀ d,oi.dst=some d->d∉oj.looks)/\(∀ d,oi.dst=some d->oj.dst≠some d)/\(∀ d,oj.dst=some d->d∉oi.looks):=by
      have no:∀ (p:Oper) (k:Nat),(∀ e∈p.after,Region.binds .any e=true->listed.getD e.on false=true)->listed.getD k true=false->¬ eK p k=true:=fun p k hall hun hb=>by
       unfold eK at hb
       obtain ⟨e,he,hb⟩:=List.any_eq_true.1 hb
       simp only [Bool.and_eq_true,beq_iff_eq] at hb
       have:=hall e (by simpa using he) hb.1
       rw [hb.2,cT hun] at this
       cases this
      rcases hfree j oj pi pj hoj hpi hpj hji with g|g|g
      · exact absurd g (no pj i hallj hiun)
      · exact absurd g (no pi j halli hjun)
      · exact g
     have hqj:calm oj.op=true:=by
      rcases hq j oj hoj hji with g|g|g
      · rw [hjun] at g;cases g
      · exact g
      · have:=qL hc g hj
        rw [cT hiun] at this
        cases this
     refine nJ (fun s' ⟨h3,h4⟩=>ih (listed.setIfInBounds j true) s' y o (dL hc hj) (fun k ok hk hki=>?_) (ready_mono hr (Ne.symm hji)) h3 ?_) (aBd hoj hap hqj hy h1)
     · rcases hq k ok hk hki with g|g
       · refine .inl ?_
         by_cases hkj:k=j
         · subst hkj
           rw [hjun] at g;cases g
         · rw [getD_set_ne true (Ne.symm hkj)]
           exact g
       · exact .inr g
     · rw [Array.setIfInBounds_comm _ _ hji]
       exact h4
theorem xF {Q:FSt->Prop} {Kp:AV->FSt->Prop} (hsz:cl.length=ops.size)
 (hfree:∀ i j oi oj pi pj,cl[i]?=some oi->cl[j]?=some oj->ops[i]?=some pi->ops[j]?=some pj->j≠i->eK pj i=true∨eK pi j=true∨((∀ d,oi.dst=some d->d∉oj.looks)/\(∀ d,oi.dst=some d->oj.dst≠some d)/\(∀ d,oj.dst=some d->d∉oi.looks))) :
 ∀ (fuel bud:Nat) (listed:Array Bool) (L:OT) (s:FSt),lS ops listed->sched ops cl fuel bud listed=some L->(∀ o∈L.inner,o.op.cls= .light->∀ x r G y,Kp x ⟨bT r o.dst y,G⟩->Kp x ⟨r,G⟩)->l7 P L s Q Kp->lB P ops cl Q Kp fuel listed s:=by
 have hlen:∀ (j:Nat) (o:Oper),ops[j]?=some o->∃ c:aP,cl[j]?=some c:=fun j o ho=>by
  have hjl:=(Array.getElem?_eq_some_iff.1 ho).1
  exact ⟨cl[j]'(by omega),List.getElem?_eq_getElem (by omega)⟩
 intro fuel
 induction fuel with
 | zero =>
   intro bud listed L s hcl hs hins h
   unfold sched at hs
   split at hs
   · rename_i hr
     cases hs
     exact ⟨hr,h⟩
   · cases hs
 | succ fuel ih =>
   intro bud listed L s hcl hs hins h
   have inr:∀ j,j∈Region.ready .any ops listed->∃ c,cl[j]?=some c/\cl.getD j default=c:=fun j hj=>by
    obtain ⟨_,o,ho,_⟩:=mem_ready.1 hj
    obtain ⟨c,hc⟩:=hlen j o ho
    exact ⟨c,hc,by rw [List.getD_eq_getElem?_getD,hc];rfl⟩
   unfold sched at hs
   split at hs
   · rename_i hr
     cases hs
     exact ⟨fun _=>h,fun i hi=>by rw [hr] at hi;cases hi⟩
   · rename_i i r hr
     have more:∀ j∈Region.ready .any ops listed,r≠[]->Region.ready .any ops (listed.setIfInBounds j true)≠[]:=fun j hj hr0=>by
      obtain ⟨q,r',rfl⟩:=List.exists_cons_of_ne_nil hr0
      have hi:i∈Region.ready .any ops listed:=by rw [hr];exact List.mem_cons_self
      have hq:q∈Region.ready .any ops listed:=by rw [hr];simp
      have hne:i≠q:=by
       have hnd:(Region.ready .any ops listed).Nodup:=by
        unfold Region.ready
        exact List.Pairwise.filter _ List.nodup_range
       rw [hr] at hnd
       exact fun e=>(List.nodup_cons.1 hnd).1 (by rw [e];exact List.mem_cons_self)
      intro e
      by_cases h1:i=j
      · have:=ready_mono hq (show q≠j from fun e=>hne (h1.trans e.symm))
        rw [e] at this;cases this
      · have:=ready_mono hi h1
        rw [e] at this;cases this
     split at hs
     · rename_i hr0
       subst hr0
       have hir:i∈Region.ready .any ops listed:=by rw [hr];exact List.mem_cons_self
       obtain ⟨c,hc,hcd⟩:=inr i hir
       simp only [hcd] at hs
       obtain ⟨L',hL',rfl⟩:=Option.map_eq_some_iff.1 hs
       have h:=jE h
       have hins':∀ o∈L'.inner,o.op.cls= .light->∀ x r G y,Kp x ⟨bT r o.dst y,G⟩->Kp x ⟨r,G⟩:=fun o ho=>hins o (iC ho)
       refine ⟨(fun h0=>by rw [hr] at h0;cases h0),fun k hk=>?_⟩
       rw [hr] at hk
       obtain rfl:k=i:=by simpa using hk
       unfold iS
       simp only [hc]
       exact bS (gM (fun y G hy=>ih _ _ _ _ (dL hcl (by rw [hr];exact hk)) hL' hins' hy) fun _ _ h=>h) (fun hy=>ih _ _ _ _ (dL hcl (by rw [hr];exact hk)) hL' hins' hy) h
     · rename_i hr0
       split at hs
       · rename_i j hj
         have hjr:j∈Region.ready .any ops listed:=by rw [hr];exact List.mem_of_find?_eq_some hj
         obtain ⟨c,hc,hcd⟩:=inr j hjr
         have he:=List.find?_some hj
         simp only [hcd] at he hs
         obtain ⟨L',hL',rfl⟩:=Option.map_eq_some_iff.1 hs
         obtain ⟨y,hy,hk⟩:=aWV (X:=fun s'=>l7 P L' s' Q Kp) he (jE h)
         have hne:L'≠ .fin []:=fun e=>more j hjr hr0 (uW (e ▸ hL'))
         have hins':∀ o∈L'.inner,o.op.cls= .light->∀ x r G y,Kp x ⟨bT r o.dst y,G⟩->Kp x ⟨r,G⟩:=fun o ho=>hins o (iC ho)
         exact rD (hins c (vL hne) (y8 he)) hc hlen (fun k ok pi pk a1 a2 a3 a4=>hfree j k c ok pi pk hc a1 a2 a3 a4) fuel listed s y hjr hy (ih _ _ _ _ (dL hcl hjr) hL' hins' hk)
       · split at hs
         · rename_i j hj
           have hjr:j∈Region.ready .any ops listed:=by rw [hr];exact List.mem_of_find?_eq_some hj
           obtain ⟨c,hc,hcd⟩:=inr j hjr
           have he:=List.find?_some hj
           simp only [hcd] at he hs
           obtain ⟨o',ho'⟩:=Option.isSome_iff_exists.1 he
           simp only [ho',Option.getD_some] at hs
           obtain ⟨L',hL',rfl⟩:=Option.map_eq_some_iff.1 hs
           obtain ⟨y,hy,hk⟩:=aFO (X:=fun s'=>l7 P L' s' Q Kp) ho' (jE h)
           have hne:L'≠ .fin []:=fun e=>more j hjr hr0 (uW (e ▸ hL'))
           have hins':∀ o∈L'.inner,o.op.cls= .light->∀ x r G y,Kp x ⟨bT r o.dst y,G⟩->Kp x ⟨r,G⟩:=fun o ho=>hins o (iC ho)
           have hst:=vZ ho'
           have hic:=hins o' (vL hne) hst.1
           rw [hst.2] at hic
           exact rD hic hc hlen (fun k ok pi pk a1 a2 a3 a4=>hfree j k c ok pi pk hc a1 a2 a3 a4) fuel listed s y hjr hy (ih _ _ _ _ (dL hcl hjr) hL' hins' hk)
         · split at hs
           · rename_i j hj
             have hjr:j∈Region.ready .any ops listed:=by rw [hr];exact List.mem_of_find?_eq_some hj
             obtain ⟨c,hc,hcd⟩:=inr j hjr
             have he:=List.find?_some hj
             simp only [hcd] at hs
             unfold aBN at he
             rw [hcd,Bool.and_eq_true] at he
             obtain ⟨hld,hall⟩:=he
             obtain ⟨L',hL',rfl⟩:=Option.map_eq_some_iff.1 hs
             obtain ⟨y,hy,hk⟩:=aWX (X:=fun s'=>l7 P L' s' Q Kp) hld (jE h)
             have hins':∀ o∈L'.inner,o.op.cls= .light->∀ x r G y,Kp x ⟨bT r o.dst y,G⟩->Kp x ⟨r,G⟩:=fun o ho=>hins o (iC ho)
             refine uN hld hc hlen (fun k ok pi pk a1 a2 a3 a4=>hfree j k c ok pi pk hc a1 a2 a3 a4) fuel listed s y hcl (fun k ok hk hki=>?_) hjr hy (ih _ _ _ _ (dL hcl hjr) hL' hins' hk)
             have hks:k<ops.size:=by
              rw [<- hsz]
              exact (List.getElem?_eq_some_iff.1 hk).1
             have hk2:=List.all_eq_true.1 hall k (List.mem_range.2 hks)
             rw [List.getD_eq_getElem?_getD,hk] at hk2
             simp only [Option.getD_some,Bool.or_eq_true,beq_iff_eq,List.contains_iff_mem] at hk2
             rcases hk2 with ((g|g)|g)|g
             · exact absurd g hki
             · exact .inl g
             · exact .inr (.inl g)
             · exact .inr (.inr g)
           split at hs
           · rename_i j hj
             have hjr:j∈Region.ready .any ops listed:=by rw [hr];exact List.mem_of_find?_eq_some hj
             obtain ⟨c,hc,hcd⟩:=inr j hjr
             have he:=List.find?_some hj
             simp only [hcd] at hs
             unfold aBO at he
             rw [hcd,Bool.and_eq_true,Bool.and_eq_true] at he
             obtain ⟨⟨hal,hgu⟩,hall⟩:=he
             have hgu:c.guard=none:=by simpa using hgu
             obtain ⟨L',hL',rfl⟩:=Option.map_eq_some_iff.1 hs
             have h:=jE h
             rw [hgu] at h
             obtain ⟨y,o,hy,hk⟩:=aAB (K:=fun y G=>l7 P L' ⟨bT s.r c.dst y,G⟩ Q Kp) hal h
             have hins':∀ o∈L'.inner,o.op.cls= .light->∀ x r G y,Kp x ⟨bT r o.dst y,G⟩->Kp x ⟨r,G⟩:=fun o ho=>hins o (iC ho)
             refine uO hgu hc hlen (fun k ok pi pk a1 a2 a3 a4=>hfree j k c ok pi pk hc a1 a2 a3 a4) fuel listed s y o hcl (fun k ok hk hki=>?_) hjr hy (ih _ _ _ _ (dL hcl hjr) hL' hins' hk)
             have hks:k<ops.size:=by
              rw [<- hsz]
              exact (List.getElem?_eq_some_iff.1 hk).1
             have hk2:=List.all_eq_true.1 hall k (List.mem_range.2 hks)
             rw [List.getD_eq_getElem?_getD,hk] at hk2
             simp only [Option.getD_some,Bool.or_eq_true,beq_iff_eq,List.contains_iff_mem] at hk2
             rcases hk2 with ((g|g)|g)|g
             · exact absurd g hki
             · exact .inl g
             · exact .inr (.inl g)
             · exact .inr (.inr g)
           split at hs
           · cases hs
           · refine ⟨(fun h0=>by rw [hr] at h0;cases h0),fun k hk=>?_⟩
             obtain ⟨c,hc,hcd⟩:=inr k hk
             rw [hr] at hk
             obtain ⟨t',ht',hk'⟩:=vO hs h _ (List.mem_map.2 ⟨k,hk,rfl⟩)
             obtain ⟨L',hL',rfl⟩:=Option.map_eq_some_iff.1 ht'
             have hins':∀ o∈L'.inner,o.op.cls= .light->∀ x r G y,Kp x ⟨bT r o.dst y,G⟩->Kp x ⟨r,G⟩:=fun o ho=>hins o (uA hs _ (List.mem_map.2 ⟨k,hk,rfl⟩) _ ht' _ (iC ho))
             simp only [hcd] at hk'
             have h:=jE hk'
             unfold iS
             simp only [hc]
             exact bS (gM (fun y G hy=>ih _ _ _ _ (dL hcl (by rw [hr];exact hk)) hL' hins' hy) fun _ _ h=>h) (fun hy=>ih _ _ _ _ (dL hcl (by rw [hr];exact hk)) hL' hins' hy) h
theorem sM {x y:aP} (h:(∀ d,x.dst=some d->d∉y.looks)/\(∀ d,x.dst=some d->y.dst≠some d)/\(∀ d,y.dst=some d->d∉x.looks)) :
 (∀ d,y.dst=some d->d∉x.looks)/\(∀ d,y.dst=some d->x.dst≠some d)/\(∀ d,x.dst=some d->d∉y.looks) :=
 ⟨h.2.2,fun d hd he=>h.2.1 d he hd,h.1⟩
theorem aOm {p:aP×Oper} {k:Nat}:∀ (r:List (aP×Oper)) (j:Nat),lH p k r j=true->∀ q x,r[q]?=some x->eK x.2 k=true∨eK p.2 (j+q)=true∨p.1.kQ x.1=true
 | [],j,_,q,x,h=>by simp at h
 | y :: r,j,h,q,x,hq=>by
   simp only [lH,Bool.and_eq_true,Bool.or_eq_true] at h
   cases q with
   | zero =>
     simp only [List.getElem?_cons_zero,Option.some.injEq] at hq
     subst hq
     rcases h.1 with (g|g)|g
     · exact .inl g
     · exact .inr (.inl g)
     · exact .inr (.inr g)
   | succ q =>
     have:=aOm r (j+1) h.2 q x (by simpa using hq)
     rw [Nat.add_assoc,Nat.add_comm 1 q] at this
     exact this
theorem j9:∀ (l:List (aP×Oper)) (k:Nat),oO l k=true->∀ i j x y,i<j->l[i]?=some x->l[j]?=some y->eK y.2 (k+i)=true∨eK x.2 (k+j)=true∨x.1.kQ y.1=true
 | [],k,_,i,j,x,y,_,h,_=>by simp at h
 | p :: r,k,h,i,j,x,y,hij,hi,hj=>by
   simp only [oO,Bool.and_eq_true] at h
   obtain ⟨j,rfl⟩:∃ q,j=q+1:=⟨j-1,by omega⟩
   simp only [List.getElem?_cons_succ] at hj
   cases i with
   | zero =>
     simp only [List.getElem?_cons_zero,Option.some.injEq] at hi
     subst hi
     have:=aOm r (k+1) h.1 j y hj
     rw [Nat.add_assoc,Nat.add_comm 1 j] at this
     exact this
   | succ i =>
     have:=j9 r (k+1) h.2 i j x y (by omega) (by simpa using hi) hj
     rw [Nat.add_assoc,Nat.add_comm 1 i,Nat.add_assoc,Nat.add_comm 1 j] at this
     exact this
theorem oF {bud:Nat} {Q:FSt->Prop} {Kp:AV->FSt->Prop} {L:OT} (hsz:cl.length=ops.size) (hs:jK bud ops cl=some L) (hins:∀ o∈L.inner,o.op.cls= .light->∀ x r G y,Kp x ⟨bT r o.dst y,G⟩->Kp x ⟨r,G⟩) (s:FSt) (h:l7 P L s Q Kp):lB P ops cl Q Kp ops.size (Array.replicate ops.size false) s:=by
 unfold jK at hs
 split at hs
 · rename_i hr
   have hs:sched ops cl ops.size bud (Array.replicate ops.size false)=some L:=by
    split at hs
    · rename_i L' hL'
      split at hs
      · cases hs;exact hL'
      · cases hs
    · cases hs
   refine xF hsz (fun i j oi oj pi pj hi hj gi gj hji=>?_) _ _ _ _ _ zC hs hins h
   have z:∀ q oq pq,cl[q]?=some oq->ops[q]?=some pq->(cl.zip ops.toList)[q]?=some (oq,pq):=fun q oq pq a b=>by
    rw [List.getElem?_zip_eq_some]
    exact ⟨a,by simpa using b⟩
   rcases Nat.lt_or_ge i j with hij|hij
   · have:=j9 _ 0 hr i j _ _ hij (z i oi pi hi gi) (z j oj pj hj gj)
     rw [Nat.zero_add,Nat.zero_add] at this
     rcases this with g|g|g
     · exact .inl g
     · exact .inr (.inl g)
     · exact .inr (.inr (mC g))
   · have:=j9 _ 0 hr j i _ _ (by omega) (z j oj pj hj gj) (z i oi pi hi gi)
     rw [Nat.zero_add,Nat.zero_add] at this
     rcases this with g|g|g
     · exact .inr (.inl g)
     · exact .inl g
     · exact .inr (.inr (sM (mC g)))
 · cases hs
theorem qN {bud:Nat} {L:OT} {n:Nat} (hs:jK bud ops cl=some L) (h:(L.opers.all fun o=>match o.dst with|some d=>decide (d<n)|none=>true)=true):(cl.all fun o=>match o.dst with|some d=>decide (d<n)|none=>true)=true:=by
 unfold jK at hs
 split at hs
 · split at hs
   · split at hs
     · rename_i hc
       cases hs
       rw [List.all_eq_true] at hc h ⊢
       intro o ho
       obtain ⟨p,hp,he⟩:=List.any_eq_true.1 (hc o ho)
       have:=h p hp
       rw [beq_iff_eq.1 he] at this
       exact this
     · cases hs
   · cases hs
 · cases hs
theorem aKq {i:Nat} {K:FSt->Prop} {Kp:AV->FSt->Prop} {s:FSt} (h:iS P (cl.map aP.toF) i K Kp s):iS P cl i K Kp s:=by
 unfold iS at h ⊢
 rw [List.getElem?_map] at h
 cases hc:cl[i]? with
 | none=>rw [hc] at h;exact h
 | some o =>
   rw [hc] at h
   simp only [Option.map_some] at h ⊢
   obtain ⟨d,c,g⟩:=o
   cases c<;>try exact h
   rename_i f args
   have e:aP.toF ⟨d,.call f args,g⟩=if aLz f then ⟨d,.call f args,g⟩ else ⟨d,.calf f args,g⟩:=rfl
   rw [e] at h
   cases hf:aLz f
   case true=>rw [hf,if_pos rfl] at h;exact h
   rw [hf,if_neg (by simp)] at h
   refine bS (fun h=>?_) (fun h=>h) h
   obtain ⟨p,h1,h2⟩:=h
   exact (h1 s.H).to fun y G ⟨g1,g2⟩=>by subst g2;exact h2 y g1
theorem vQ {Q:FSt->Prop} {Kp:AV->FSt->Prop}:∀ (fuel:Nat) (listed:Array Bool) (s:FSt),lB P ops (cl.map aP.toF) Q Kp fuel listed s->lB P ops cl Q Kp fuel listed s
 | 0,_,_,h=>h
 | fuel+1,listed,s,h=>⟨h.1,fun i hi=>aKq (nJ (fun s' h'=>vQ fuel _ s' h') (h.2 i hi))⟩
theorem sJ {L:OT} (hs:pP ops cl=some L):(∃ b,jK b ops cl=some L)∨∃ b,jK b ops (cl.map aP.toF)=some L:=by
 unfold pP at hs
 split at hs
 · rename_i L0 h
   cases hs
   exact .inl ⟨_,h⟩
 · split at hs
   · rename_i L0 h
     cases hs
     exact .inr ⟨_,h⟩
   · split at hs
     · rename_i L' hL'
       split at hs
       · rename_i L0 hL
         split at hs
         · cases hs;exact .inr ⟨_,hL'⟩
         · cases hs;exact .inl ⟨_,hL⟩
       · cases hs;exact .inr ⟨_,hL'⟩
     · exact .inl ⟨_,hs⟩
theorem v9 {Q:FSt->Prop} {Kp:AV->FSt->Prop} {L:OT} (hsz:cl.length=ops.size) (hs:pP ops cl=some L) (hins:∀ o∈L.inner,o.op.cls= .light->∀ x r G y,Kp x ⟨bT r o.dst y,G⟩->Kp x ⟨r,G⟩) (s:FSt) (h:l7 P L s Q Kp):lB P ops cl Q Kp ops.size (Array.replicate ops.size false) s:=by
 rcases sJ hs with ⟨_,hs⟩|⟨_,hs⟩
 · exact oF hsz hs hins s h
 · exact vQ _ _ _ (oF (by simpa using hsz) hs hins s h)
theorem xG {L:OT} {n:Nat} (hs:pP ops cl=some L) (h:(L.opers.all fun o=>match o.dst with|some d=>decide (d<n)|none=>true)=true):(cl.all fun o=>match o.dst with|some d=>decide (d<n)|none=>true)=true:=by
 rcases sJ hs with ⟨_,hs⟩|⟨_,hs⟩
 · exact qN hs h
 · have:=qN hs h
   rw [List.all_map] at this
   have e:∀ o:aP,o.toF.dst=o.dst:=fun o=>by
    obtain ⟨d,c,g⟩:=o
    cases c<;>try rfl
    rename_i f args
    show (if aLz f then _ else _:aP).dst=d
    split<;>rfl
   simpa only [Function.comp_def,e] using this
theorem n9 (hops:jS P ops ops.toList=some cl) (hd:∀ o∈ops.toList,∀ t,o.dst=some t->t<N.n):∀ (fuel:Nat) (listed:Array Bool) (s:FSt) (E:Env) (a:Act) (K:FSt->Prop) (Kp:AV->FSt->Prop) (Q:Exit->Act->World->Prop),
 lB P ops cl K Kp fuel listed s->Match N E s.r s.H a->(∀ a' E' s',Match N E' s'.r s'.H a'->Trans E s.H.length E' s'.H.length->K s'->Q .normal a' E'.w) ->
 (∀ a' E' s' v x,Match N E' s'.r s'.H a'->Trans E s.H.length E' s'.H.length->E'.VR s'.H.length v x->Kp x s'->Q (.panic [⟨v,false,false⟩]) a' E'.w)->wpAny P .any ops Q fuel listed a E.w
 | 0,listed,s,E,a,K,Kp,Q,h,m,hQ,hP=>⟨h.1,hQ a E s m (Trans.refl _ _) h.2⟩
 | fuel+1,listed,s,E,a,K,Kp,Q,h,m,hQ,hP=>by
   refine ⟨fun h0=>hQ a E s m (Trans.refl _ _) (h.1 h0),fun i hi=>?_⟩
   have h1:=h.2 i hi
   obtain ⟨_,o,ho,_⟩:=mem_ready.1 hi
   have ho':ops.toList[i]?=some o:=by simpa using ho
   obtain ⟨c,hc,hco⟩:=(mO _ _ hops).2 i o ho'
   unfold iS at h1
   simp only [hc] at h1
   unfold wpOp
   simp only [ho]
   have hdo:=hd o (List.mem_of_getElem? ho')
   unfold aFV at hco
   split at hco
   · rename_i co g hcc hcg
     cases hco
     rcases mJ hcg m h1 with ⟨hw,h1⟩|⟨hw,h1⟩
     · rw [if_pos hw]
       refine .inl (aFa hcc m hdo h1 (fun a' E' y H' m' ht hk=>?_) fun E' v x H' m' ht hv hk=>hP a E' ⟨s.r,H'⟩ v x m' ht hv hk)
       exact n9 hops hd fuel _ ⟨bT s.r o.dst y,H'⟩ E' a' K Kp Q hk m' (fun a'' E'' s'' m'' ht' hk'=>hQ a'' E'' s'' m'' (ht.trans ht') hk') fun a'' E'' s'' v x m'' ht' hv hk'=>hP a'' E'' s'' v x m'' (ht.trans ht') hv hk'
     · rw [if_neg (by rw [hw];simp)]
       have m':Match N E (bT s.r o.dst (.tup [])) s.H (a.put o.dst undef):=m.put (n:=0) hdo m.hm (Trans.refl _ _) sC
       exact n9 hops hd fuel _ ⟨bT s.r o.dst (.tup []),s.H⟩ E _ K Kp Q h1 m' hQ hP
   · cases hco
end regions
end Go.Ab
