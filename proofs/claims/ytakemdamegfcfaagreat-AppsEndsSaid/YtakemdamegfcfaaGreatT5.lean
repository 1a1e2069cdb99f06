/- A part of a proof: how code is told and stepped through. No condition. -/
import Derived.Test.YtakemdamegfcfaaGreatT4
import Derived.KernelRfl
set_option linter.unusedSimpArgs false
set_option linter.unusedVariables false
namespace Go.Ab
open Go
section freeze
variable {P:Program} {N:Fix} {E:Env} {a:Act} {r:Nat->AV} {H:List AO}
theorem aK7 {id z off len:Nat} {l:List AV} (h:H[id]?=some (.arr z l)) (hl:off+len<=l.length):rdS H z (.own id z off len)=some ((l.drop off).take len):=by
 simp [rdS,h,hl]
def Env.jI (E:Env) (id:Nat):Env:=match E.μ id with
 | some L=>E.freeze L.b
 | none=>E
theorem oC (hm:HM E H) {id z:Nat} {l:List AV} (h:H[id]?=some (.arr z l)):HM (E.jI id) (H.set id .dead)/\Trans E H.length (E.jI id) H.length/\(E.jI id).w=E.w/\∀ L,E.μ id=some L->(E.jI id).S false L.b:=by
 unfold Env.jI
 cases hμ:E.μ id with
 | none=>exact ⟨rS hm id,Trans.refl _ _,rfl,fun L hL=>by cases hL⟩
 | some L =>
   refine ⟨qA hm id _ L h rfl hμ,gJ L.b (Env.iA (hm.obj id _ h) L hμ rfl),rfl,fun L' hL'=>?_⟩
   cases hL'
   exact .inr rfl
theorem aAK (hm:HM E H) {id z:Nat} {l:List AV} (h:H[id]?=some (.arr z l)) {v:Value} {y:AV} (hv:E.VR H.length v y):(E.jI id).VR H.length v (y.fz1 id z l):=by
 obtain ⟨h1,h2,h3,h4⟩:=oC hm h
 have hv':=hv.trans hm h2
 unfold AV.fz1
 split
 · rename_i i z' off len
   split
   · rename_i hc
     obtain ⟨rfl,rfl,hlen⟩:=hc
     obtain ⟨A,c,rfl,hlc,hel,hrest⟩:=fE hm hv (aK7 h hlen)
     have hll:((l.drop off).take len).length=len:=by simp;omega
     by_cases hz:(l.drop off).take len=[]
     · rw [hz]
       exact .sl0
     · rcases hrest with hr|⟨b,o,u,rfl,hu⟩
       · exact absurd hr hz
       · rcases hv.cN.2 with ⟨A',he,hl0,_⟩|⟨L,c',hL,hLz,he,hle,hcap⟩
         · exact absurd (List.eq_nil_of_length_eq_zero (hll.trans hl0)) hz
         · have hb:b=L.b:=by
            simp only [Value.slice.injEq,Option.some.injEq,Addr.mk.injEq] at he
            exact he.1.1
           subst hb
           refine .sl u rfl hlc (h4 L hL) hel (fun k hk=>?_) (fun k y hk=>((hu k y hk).2).trans hm h2)
           rw [h3]
           exact (hu k _ (List.getElem?_eq_getElem hk)).1
   · exact hv'
 · exact hv'
theorem aBA {id z:Nat} {l:List AV} {y:AV} (h:y.one=true):(y.fz1 id z l).one=true:=by
 unfold AV.fz1
 split
 · split<;>rfl
 · exact h
theorem aIw (hm:HM E H) {id z:Nat} {l:List AV} (h:H[id]?=some (.arr z l)) {v:Value} {y:AV} (hv:E.VR H.length v y):(E.jI id).VR H.length v (y.fz2 id z l):=by
 unfold AV.fz2
 split
 · rename_i cs
   obtain ⟨vs,rfl,hl,h1,hk⟩:=hv.lR
   refine .agg (by simp [hl]) (fun a ha=>?_) (fun k y hy=>?_)
   · obtain ⟨b,hb,rfl⟩:=List.mem_map.1 ha
     exact aBA (h1 b hb)
   · rw [List.getElem?_map] at hy
     cases hc:cs[k]? with
     | none=>rw [hc] at hy;simp at hy
     | some q =>
       rw [hc] at hy
       simp only [Option.map_some,Option.some.injEq] at hy
       subst hy
       exact aAK hm h (hk k q hc)
 · exact aAK hm h hv
theorem aIv (hm:HM E H) {id z:Nat} {l:List AV} (h:H[id]?=some (.arr z l)) {v:Value} {y:AV} (hv:E.VR H.length v y):(E.jI id).VR H.length v (y.fz id z l):=by
 unfold AV.fz
 split
 · rename_i cs
   obtain ⟨vs,rfl,hl,hk⟩:=hv.mU
   refine .tup (by simp [hl]) (fun k y hy=>?_)
   rw [List.getElem?_map] at hy
   cases hc:cs[k]? with
   | none=>rw [hc] at hy;simp at hy
   | some q =>
     rw [hc] at hy
     simp only [Option.map_some,Option.some.injEq] at hy
     subst hy
     exact aIw hm h (hk k q hc)
 · exact aIw hm h hv
theorem get_map (f:AV->AV) (hf:f .top= .top):∀ (r:bX) (t:Nat),bX.get (r.map fun p=>(p.1,f p.2)) t=f (r.get t)
 | [],t=>hf.symm
 | (k,v) :: r,t=>by
   simp only [List.map_cons,bX.get]
   split
   · rfl
   · exact get_map f hf r t
theorem yZ (r:Nat->AV):∀ (l:List Nat) (t:Nat),bX.get (l.map fun t=>(t,r t)) t=r t∨bX.get (l.map fun t=>(t,r t)) t= .top
 | [],t=>.inr rfl
 | k :: l,t=>by
   simp only [List.map_cons,bX.get]
   split
   · rename_i h;rw [h];exact .inl rfl
   · exact yZ r l t
theorem jO {keep:Option (List Nat)} {s:St} (m:Match N E s.r.get s.H a):Match N E (dM keep s).r.get (dM keep s).H a:=by
 unfold dM
 split
 · exact m
 · rename_i l
   refine ⟨m.hm,fun t=>?_,m.size,m.defers⟩
   rcases yZ s.r.get l t with h|h
   · rw [h];exact m.regs t
   · rw [h];exact .top
theorem p8 {keep:Option (List Nat)} {s:St}:(dM keep s).H=s.H:=by unfold dM;split<;>rfl
theorem n6:∀ (l:List Nat) (s:St) (E:Env) (K:St->Prop),tF l s K->Match N E s.r.get s.H a->∃ E' s',K s'/\Match N E' s'.r.get s'.H a/\E'.w=E.w/\s'.H.length=s.H.length/\Trans E s.H.length E' s'.H.length
 | [],s,E,K,h,m=>⟨E,s,h,m,rfl,rfl,Trans.refl _ _⟩
 | id :: l,s,E,K,h,m=>by
   unfold tF at h
   split at h
   · rename_i z' l' hid
     obtain ⟨h1,h2,h3,h4⟩:=oC m.hm hid
     have m':Match N (E.jI id) (bX.get (s.r.map fun p=>(p.1,p.2.fz id z' l'))) (s.H.set id .dead) a:=by
      refine ⟨h1,fun q=>?_,m.size,m.defers⟩
      rw [List.length_set,get_map (AV.fz id z' l') rfl]
      exact aIv m.hm hid (m.regs q)
     obtain ⟨E',s',k1,k2,k3,k4,k5⟩:=n6 l ⟨_,_⟩ (E.jI id) K h m'
     simp only [List.length_set] at k4 k5
     exact ⟨E',s',k1,k2,k3.trans h3,k4,h2.trans k5⟩
   · exact n6 l s E K h m
theorem vH (l:List Nat) (s:St) (E:Env) (K:St->Prop) (h:y2 l s K) (m:Match N E s.r.get s.H a):∃ E' s',K s'/\Match N E' s'.r.get s'.H a/\E'.w=E.w/\s'.H.length=s.H.length/\Trans E s.H.length E' s'.H.length :=
 n6 _ s E K h m
end freeze
theorem Trans.cut {E E':Env} {n n' m:Nat} (h:Trans E n E' n') (hm:m<=n):Trans E m E' n':={ h with mu:=fun id hi=>h.mu id (by omega),num:=Nat.le_trans hm h.num }
theorem Trans.iQ {E E' E'':Env} {m n' n'':Nat} (h:Trans E m E' n') (k:Trans E' m E'' n''):Trans E m E'' n'' where
 os:=k.os.trans h.os
 tape:=k.tape.trans h.tape
 output:=k.output.trans h.output
 size:=Nat.le_trans h.size k.size
 keep:=fun b hb ho=>(k.keep b (Nat.lt_of_lt_of_le hb h.size) (fun o'=>(h.owns b o').elim ho (fun g=>by omega))).trans (h.keep b hb ho)
 grow:=fun t b hs=>k.grow t b (h.grow t b hs)
 born:=fun t b hs=>by
  rcases k.born t b hs with h1|h1|h1
  · exact h.born t b h1
  · rcases h.owns b h1 with h2|h2
    · exact .inr (.inl h2)
    · exact .inr (.inr h2)
  · exact .inr (.inr (Nat.le_trans h.size h1))
 owns:=fun b ho=>by
  rcases k.owns b ho with h1|h1
  · exact h.owns b h1
  · exact .inr (Nat.le_trans h.size h1)
 mu:=fun id hi=>(k.mu id hi).trans (h.mu id hi)
 num:=k.num
theorem get_mem:∀ (r:bX) (t:Nat),(∃ p∈r,p.1=t/\r.get t=p.2)∨r.get t= .top
 | [],t=>.inr rfl
 | (k,v) :: r,t=>by
   simp only [bX.get]
   split
   · rename_i h;exact .inl ⟨(k,v),List.mem_cons_self,h,rfl⟩
   · rcases get_mem r t with ⟨p,hp,h⟩|h
     · exact .inl ⟨p,List.mem_cons_of_mem _ hp,h⟩
     · exact .inr h
theorem Sub.sem {g:Nat} {s s1:St} (h:Sub g s s1):aBe g s s1:=by
 intro E m0 hg h0 hm
 rcases h with rfl|⟨ρ,h1,h2,h3,h4⟩|h
 · exact ⟨E,rfl,hm,fun _ _ h=>h,(Trans.refl E _).cut h0⟩
 · refine ⟨E.part ρ,rfl,aMU hm h3,fun t u hu=>?_,⟨rfl,rfl,rfl,Nat.le_refl _,fun _ _ _=>rfl,fun _ _ h=>h,fun _ _ h=>.inl h,fun _ h=>.inl h,fun id hi=>mZ (h1 id (by omega)),by omega⟩⟩
   rcases get_mem s1.r t with ⟨p,hp,rfl,he⟩|he
   · rw [he]
     obtain ⟨k1,k2⟩:=h4 p hp
     rcases k1 with k1|⟨k1,t0,z0,k3⟩
     · exact VR.aUb hu (fun _ _ h=>h) p.2 k1 k2 (fun _ _ hk=>mZ hk) fun _ hk=>by simp [Env.part,hk]
     · have e2:p.2= .sl t0 z0 []:=by
        generalize p.2=y at k3
        cases y<;>simp only [AV.ro,reduceCtorEq] at k3
        · exact k3
        · split at k3<;>cases k3
       rw [k1] at hu
       rw [e2]
       cases hu
       exact .sl0
   · rw [he];exact .top
 · exact h E m0 hg h0 hm
theorem kN {N:Fix} {g m0:Nat} {s s1:St} {E:Env} {a:Act} (h:Sub g s s1) (hg:m0<=g) (h0:m0<=s.H.length) (m:Match N E s.r.get s.H a):∃ E1,E1.w=E.w/\Match N E1 s1.r.get s1.H a/\Trans E m0 E1 s1.H.length:=by
 obtain ⟨E1,k1,k2,k3,k4⟩:=h.sem E m0 hg h0 m.hm
 exact ⟨E1,k1,⟨k2,fun t=>k3 t _ (m.regs t),m.size,m.defers⟩,k4⟩
theorem Sub.trans {g:Nat} {s s1 s2:St} (h:Sub g s s1) (k:Sub g s1 s2):Sub g s s2 :=
 .inr (.inr fun E m0 hg h0 hm=>by
   obtain ⟨E1,a1,a2,a3,a4⟩:=h.sem E m0 hg h0 hm
   obtain ⟨E2,b1,b2,b3,b4⟩:=k.sem E1 m0 hg a4.num a2
   exact ⟨E2,b1.trans a1,b2,fun q x hx=>b3 q x (a3 q x hx),a4.iQ b4⟩)
def AO.fz (id z:Nat) (l:List AV):AO->AO
 | .box cs=>.box (cs.map (AV.fz1 id z l))
 | o=>o
theorem Sub.frz {g:Nat} {r:bX} {H:List AO} (j:Nat) {z:Nat} {l:List AV} (hj:H[j]?=some (.arr z l)):Sub g ⟨r,H⟩ ⟨r.map fun p=>(p.1,p.2.fz j z l),(H.map (AO.fz j z l)).set j .dead⟩ :=
 .inr (.inr fun E m0 hg h0 hm=>by
   obtain ⟨h1,h2,h3,h4⟩:=oC hm hj
   have hlen:((H.map (AO.fz j z l)).set j .dead).length=H.length:=by simp
   refine ⟨E.jI j,h3,?_,fun q x hx=>?_,by show Trans E m0 (E.jI j) ((H.map (AO.fz j z l)).set j .dead).length;rw [hlen];exact h2.cut h0⟩
   · refine ⟨fun id o ho=>?_,fun i k oi ok Li Lk hik hi hk=>?_,h1.disj,h1.bound,h1.sbound,h1.sub⟩
     · rw [hlen]
       rw [List.getElem?_set] at ho
       by_cases hid:j=id
       · rw [if_pos hid] at ho
         split at ho
         · cases ho;trivial
         · cases ho
       · rw [if_neg hid,List.getElem?_map] at ho
         cases hc:H[id]? with
         | none=>rw [hc] at ho;cases ho
         | some o0 =>
           rw [hc] at ho
           simp only [Option.map_some,Option.some.injEq] at ho
           subst ho
           have hob:=h1.obj id o0 (by rw [List.getElem?_set_ne (by omega)];exact hc)
           rw [List.length_set] at hob
           cases o0 with
           | box cs =>
             have hob0:=hm.obj id _ hc
             obtain ⟨L,u,t,fz,g1,g2,g3,g4,g5,g6,g7,g8,g9⟩:=hob
             obtain ⟨L',u',t',fz',k1,k2,k3,k4,k5,k6,k7,k8,k9⟩:=hob0
             refine ⟨L,u,t,fz,g1,g2,g3,by simpa using g4,g5,g6,g7,fun a ha=>?_,fun k y hk=>?_⟩
             · obtain ⟨b,hb,rfl⟩:=List.mem_map.1 ha
               exact aBA (g8 b hb)
             · rw [List.getElem?_map] at hk
               cases hq:cs[k]? with
               | none=>rw [hq] at hk;cases hk
               | some y0 =>
                 rw [hq] at hk
                 simp only [Option.map_some,Option.some.injEq] at hk
                 subst hk
                 have eμ:(E.jI j).μ id=E.μ id:=h2.mu id (List.getElem?_eq_some_iff.1 hc).1
                 have eL:L'=L:=by rw [eμ,k1] at g1;cases g1;rfl
                 subst eL
                 have eu:u'=u:=by
                  rw [h3,k5] at g5
                  cases g5;rfl
                 subst eu
                 exact aAK hm hj (k9 k y0 hq)
           | _=>exact hob
     · have get:∀ (i:Nat) (o:AO),((H.map (AO.fz j z l)).set j .dead)[i]?=some o->∃ o0,(H.set j .dead)[i]?=some o0/\o0.live=o.live:=by
        intro i o ho
        rw [List.getElem?_set] at ho ⊢
        by_cases hid:j=i
        · rw [if_pos hid] at ho ⊢
          rw [List.length_map] at ho
          split at ho
          · rename_i hl
            cases ho
            exact ⟨.dead,by rw [if_pos hl],rfl⟩
          · cases ho
        · rw [if_neg hid,List.getElem?_map] at ho
          rw [if_neg hid]
          cases hc:H[i]? with
          | none=>rw [hc] at ho;cases ho
          | some o0 =>
            rw [hc] at ho
            simp only [Option.map_some,Option.some.injEq] at ho
            subst ho
            exact ⟨o0,rfl,by cases o0<;>rfl⟩
       obtain ⟨oi',a1,a2⟩:=get i oi hi
       obtain ⟨ok',b1,b2⟩:=get k ok hk
       intro l1 l2
       exact h1.inj i k oi' ok' Li Lk hik a1 b1 (a2.trans l1) (b2.trans l2)
   · show (E.jI j).VR ((H.map (AO.fz j z l)).set j .dead).length x (bX.get (r.map fun p=>(p.1,p.2.fz j z l)) q)
     rw [hlen,get_map (AV.fz j z l) rfl]
     exact aIv hm hj hx)
def AE.aGx:AE->Value->Exit
 | .normal,_=>.normal
 | .exit id,_=>.exit id
 | .ret,_=>.ret
 | .pan _,v=>.panic [⟨v,false,false⟩]
def AE.val (E:Env) (n:Nat):AE->Value->Prop
 | .pan x,v=>E.VR n v x
 | _,_=>True
theorem aFn {P:Program} {c:Code} {Q:Exit->Act->World->Prop} (I:Nat->Act->World->Prop) (round:∀ n a w,I n a w->c.wp P (Exit.then (fun a' w'=>∃ m,m<n/\I m a' w') Q) a w) (n:Nat) (a:Act) (w:World) (h:I n a w):(Code.loop c).wp P Q a w:=by
 intro b k cs
 have key:∀ n a w,I n a w->∃ e a' w',Q e a' w'/\Arrives P (lone (b.at a (.code c :: .inLoop c :: k)) cs w) b k cs e a' w':=by
  intro n
  induction n using Nat.strongRecOn with
  | _ n ih =>
    intro a w hI
    obtain ⟨e,a1,w1,hq,harr⟩:=round n a w hI b (.inLoop c :: k) cs
    cases e with
    | normal =>
      obtain ⟨m,hlt,hI1⟩:=hq
      obtain ⟨e2,a2,w2,hq2,harr2⟩:=ih m hlt a1 w1 hI1
      exact ⟨e2,a2,w2,hq2,.of_steps (Steps.trans harr (.one step_inLoop)) harr2⟩
    | exit id=>exact ⟨_,a1,w1,hq,.pass (x:=.inLoop c) rfl (fun _ _=>.inl (by simp)) harr⟩
    | goto l=>exact ⟨_,a1,w1,hq,.pass (x:=.inLoop c) rfl (fun _ _=>.inl (by simp)) harr⟩
    | ret=>exact ⟨_,a1,w1,hq,.pass (x:=.inLoop c) rfl (fun _ _=>.inl (by simp)) harr⟩
    | panic ch=>exact ⟨_,a1,w1,hq,.pass (x:=.inLoop c) rfl (fun _ _=>.inl (by simp)) harr⟩
    | outgrown=>exact ⟨_,a1,w1,hq,.pass (x:=.inLoop c) rfl (fun _ _=>.inl (by simp)) harr⟩
 obtain ⟨e,a',w',hq,harr⟩:=key n a w h
 exact ⟨e,a',w',hq,.of_steps (.one step_loop) harr⟩
def Ends (N:Fix) (E:Env) (n:Nat) (Q:AE->St->Prop) (R:Exit->Act->World->Prop):Prop :=
 ∀ e v a' E' s',Match N E' s'.r.get s'.H a'->Trans E n E' s'.H.length->e.val E' s'.H.length v->Q e s'->R (e.aGx v) a' E'.w
theorem Ends.then {N:Fix} {E:Env} {n:Nat} {K:St->Prop} {Q:AE->St->Prop} {R:Exit->Act->World->Prop} {next:Act->World->Prop} (h:Ends N E n Q R)
 (hk:∀ a' E' s',Match N E' s'.r.get s'.H a'->Trans E n E' s'.H.length->K s'->next a' E'.w):Ends N E n (iT K Q) (Exit.then next R):=by
 intro e v a' E' s' m t hv q
 cases e with
 | normal=>exact hk a' E' s' m t q
 | exit id=>exact h (.exit id) v a' E' s' m t hv q
 | ret=>exact h .ret v a' E' s' m t hv q
 | pan x=>exact h (.pan x) v a' E' s' m t hv q
theorem rI {P:Program} {N:Nat} {ops:Array Oper}:∀ (l:List Oper) (cl:List aP),jS P ops l=some cl->(cl.all fun o=>match o.dst with|some d=>decide (d<N)|none=>true)=true->∀ o∈l,∀ t,o.dst=some t->t<N
 | [],cl,_,_,o,ho,_,_=>by cases ho
 | o' :: l,cl,hc,h,o,ho,t,ht=>by
   simp only [jS] at hc
   split at hc
   · rename_i c cl' hco hcl
     cases hc
     simp only [List.all_cons,Bool.and_eq_true] at h
     rcases List.mem_cons.1 ho with rfl|ho
     · unfold aFV at hco
       split at hco
       · cases hco
         have:=h.1
         simp only [ht,decide_eq_true_eq] at this
         exact this
       · cases hco
     · exact rI l cl' hcl h.2 o ho t ht
   · cases hc
theorem xM {P:Program} {N:Nat} {ops:Array Oper} (l:List Oper) (cl:List aP) (h:jS P ops l=some (cl.map aP.bare)) (hf:(cl.all fun o=>match o.dst with|some d=>decide (d<N)|none=>true)=true):∀ o∈l,∀ t,o.dst=some t->t<N :=
 rI l (cl.map aP.bare) h (by rw [List.all_map];exact hf)
theorem aG4 {P:Program} {N:Nat} {ops:Array Oper} (l:List Oper) (cl:List aP) (h:jS P ops l=some (cl.map aP.gX)) (hf:(cl.all fun o=>match o.dst with|some d=>decide (d<N)|none=>true)=true):∀ o∈l,∀ t,o.dst=some t->t<N :=
 rI l (cl.map aP.gX) h (by rw [List.all_map];exact hf)
theorem qZ {P:Program} {ops:Array Oper}:∀ (x y:List aP) (l:List Oper),jS P ops l=some (x++y)->∃ l1 l2,l=l1++l2/\jS P ops l1=some x/\jS P ops l2=some y
 | [],y,l,h=>⟨[],l,rfl,rfl,h⟩
 | c :: x,y,[],h=>by simp [jS] at h
 | c :: x,y,o :: l,h=>by
   simp only [jS] at h
   split at h
   · rename_i c' cl' h1 h2
     simp only [List.cons_append,Option.some.injEq,List.cons.injEq] at h
     obtain ⟨rfl,rfl⟩:=h
     obtain ⟨l1,l2,rfl,h3,h4⟩:=qZ x y l h2
     exact ⟨o :: l1,l2,rfl,by simp [jS,h1,h3],h4⟩
   · cases h
theorem aFM {N:Fix} {m0:Nat} {E E':Env} {a':Act} {s':St} {frz:List Nat} {keep:Option (List Nat)} {K:St->Prop} (h:y2 frz s' fun s''=>K (dM keep s'')) (m:Match N E' s'.r.get s'.H a') (t:Trans E m0 E' s'.H.length) :
 ∃ E2 s2,E2.w=E'.w/\Match N E2 s2.r.get s2.H a'/\Trans E m0 E2 s2.H.length/\K s2:=by
 obtain ⟨E2,s2,k1,k2,k3,k4,k5⟩:=vH frz s' E' _ h m
 have e:(dM keep s2).H=s2.H:=by unfold dM;split<;>rfl
 exact ⟨E2,dM keep s2,k3,jO k2,by rw [e];exact t.iQ (k5.cut t.num),k1⟩
theorem aF2 {P:Program} {N:Fix} {m0:Nat} {ops:Array Oper} (rest:List Oper):∀ (cc:CC) (cl:List aP) (l:List Oper) (s:St) (Q:AE->St->Prop) (E:Env) (a:Act) (R:Exit->Act->World->Prop),cc.ops=some cl->jS P ops l=some (cl.map aP.bare) ->
 (∀ o∈l,∀ t,o.dst=some t->t<N.n)->cc.base m0=true->m0<=s.H.length->aw P cc Q s->Match N E s.r.get s.H a ->
 (∀ a' E' s',Match N E' s'.r.get s'.H a'->Trans E m0 E' s'.H.length->Q .normal s'->wpList P ops R rest a' E'.w) ->
 (∀ a' E' s' v x,Match N E' s'.r.get s'.H a'->Trans E m0 E' s'.H.length->E'.VR s'.H.length v x->Q (.pan x) s'->R (.panic [⟨v,false,false⟩]) a' E'.w)->wpList P ops R (l++rest) a E.w:=by
 intro cc
 induction cc generalizing rest with
 | reg co d frz keep =>
   intro cl l s Q E a R hcc hcl hd hb h0 h m hR hP
   cases d<;>simp only [CC.ops,Option.some.injEq,reduceCtorEq] at hcc
   subst hcc
   simp only [aw] at h
   refine m7 rest l _ s E a _ _ R hcl hd h m (fun a' E' s' m' t' h'=>?_) fun a' E' s' v x m' t' hv h'=>hP a' E' s' v x m' (t'.cut h0) hv h'
   obtain ⟨E2,s2,k1,k2,k3,k4⟩:=aFM (m0:=m0) (E:=E) h' m' (t'.cut h0)
   rw [<- k1]
   exact hR a' E2 s2 k2 k3 k4
 | cat x y ihx ihy =>
   intro cl l s Q E a R hcc hcl hd hb h0 h m hR hP
   simp only [CC.ops] at hcc
   split at hcc
   · rename_i x' y' hx hy
     simp only [Option.some.injEq] at hcc
     subst hcc
     rw [List.map_append] at hcl
     obtain ⟨l1,l2,rfl,h1,h2⟩:=qZ _ _ l hcl
     simp only [CC.base,Bool.and_eq_true] at hb
     simp only [aw] at h
     rw [List.append_assoc]
     refine ihx (l2++rest) x' l1 s _ E a R hx h1 (fun o ho=>hd o (List.mem_append_left _ ho)) hb.1 h0 h m (fun a' E' s' m' t' h'=>?_) fun a' E' s' v x m' t' hv h'=>hP a' E' s' v x m' t' hv h'
     exact ihy rest y' l2 s' Q E' a' R hy h2 (fun o ho=>hd o (List.mem_append_right _ ho)) hb.2 t'.num h' m' (fun a2 E2 s2 m2 t2 q2=>hR a2 E2 s2 m2 (t'.iQ t2) q2) fun a2 E2 s2 v x m2 t2 hv q2=>hP a2 E2 s2 v x m2 (t'.iQ t2) hv q2
   · cases hcc
 | tidy g b ih =>
   intro cl l s Q E a R hcc hcl hd hb h0 h m hR hP
   simp only [CC.base,Bool.and_eq_true,decide_eq_true_eq] at hb
   refine ih rest cl l s _ E a R hcc hcl hd hb.2 h0 h m (fun a' E' s' m' t' q=>?_) fun a' E' s' v x m' t' hv h'=>hP a' E' s' v x m' t' hv h'
   obtain ⟨s1,h1,h2⟩:=q
   obtain ⟨E1,k1,k2,k3⟩:=kN h1 hb.1 t'.num m'
   rw [<- k1]
   exact hR a' E1 s1 k2 (t'.iQ k3) h2
 | _=>intro cl l s Q E a R hcc;simp [CC.ops] at hcc
theorem zB {P:Program} {c:Code} (h:comp P c=some .bad):False:=by
 cases c<;>simp only [comp,reduceCtorEq,Option.some.injEq] at h
 · split at h
   · split at h
     · split at h
       · cases h
       · split at h<;>cases h
     · cases h
   · cases h
 all_goals (split at h<;>cases h)
theorem aIS {P:Program} {c:Code} {l:List aP} (h:comp P c=some (.reg l false [] none)):∃ id ops,c= .region id ops false/\jS P ops ops.toList=some l:=by
 cases c<;>simp only [comp,reduceCtorEq,Option.some.injEq] at h
 · rename_i id ops d
   split at h
   · rename_i l' hl
     cases d
     · simp only [Bool.false_eq_true,if_false,Option.some.injEq,CC.reg.injEq] at h
       obtain ⟨rfl,_⟩:=h
       exact ⟨id,ops,rfl,hl⟩
     · simp only [if_true] at h
       split at h
       · simp at h
       · split at h<;>simp at h
   · cases h
 all_goals (split at h<;>cases h)
theorem oR {N:Nat}:∀ (cc:CC) (cl:List aP),cc.ops=some cl->cc.fits N=true->(cl.all fun o=>match o.dst with|some d=>decide (d<N)|none=>true)=true
 | .reg co d frz keep,cl,h,hf=>by
   cases d<;>simp only [CC.ops,Option.some.injEq,reduceCtorEq] at h
   subst h
   exact hf
 | .cat a b,cl,h,hf=>by
   simp only [CC.ops] at h
   split at h
   · rename_i x y hx hy
     simp only [Option.some.injEq] at h
     subst h
     simp only [CC.fits,Bool.and_eq_true] at hf
     rw [List.all_append,oR a x hx hf.1,oR b y hy hf.2]
     rfl
   · cases h
 | .tidy g b,cl,h,hf=>oR b cl h hf
 | .skip,cl,h,hf=>by simp [CC.ops] at h
 | .seq _ _,cl,h,hf=>by simp [CC.ops] at h
 | .cond _ _ _,cl,h,hf=>by simp [CC.ops] at h
 | .block _ _ _,cl,h,hf=>by simp [CC.ops] at h
 | .loop _ _ _,cl,h,hf=>by simp [CC.ops] at h
 | .exit _,cl,h,hf=>by simp [CC.ops] at h
 | .ret,cl,h,hf=>by simp [CC.ops] at h
 | .bad,cl,h,hf=>by simp [CC.ops] at h
theorem m9 {P:Program} {K K':St->Prop} {Kp Kp':AV->St->Prop} (hk:∀ s,K s->K' s):∀ (l:List aP) (s:St),cF P true l s K Kp->cF P true l s K' Kp'
 | [],s,h=>hk s h
 | o :: l,s,h=>by
   simp only [cF,if_true] at h ⊢
   exact bS (oT fun y G=>m9 hk l _) (m9 hk l _) h
theorem m8 {P:Program} {K K':St->Prop} {Kp:AV->St->Prop} (hk:∀ s,K s->K' s):∀ (l:List aP) (s:St),cF P false l s K Kp->cF P false l s K' Kp
 | [],s,h=>hk s h
 | o :: l,s,h=>by
   simp only [cF,Bool.false_eq_true,if_false] at h ⊢
   exact bS (gM (fun y G=>m8 hk l _) fun _ _ h=>h) (m8 hk l _) h
theorem sV {P:Program} {K K':St->Prop} {Kp:AV->St->Prop} (hk:∀ s,K s->K' s):∀ (t:OT) (s:St),otK P t s K Kp->otK P t s K' Kp
 | .fin l,s,h=>m8 hk l s h
 | .pre l a b,s,h=>by
   simp only [otK] at h ⊢
   exact m8 (fun s' h'=>⟨sV hk a s' h'.1,sV hk b s' h'.2⟩) l s h
theorem tL {P:Program} {N:Fix} {m0:Nat} (hmix:P.follows .mixedOrders=true) (c:Code):∀ (cc:CC) (s:St) (Q:AE->St->Prop) (E:Env) (a:Act) (R:Exit->Act->World->Prop),comp P c=some cc.bare->cc.fits N.n=true->cc.base m0=true->m0<=s.H.length ->
 aw P cc Q s->Match N E s.r.get s.H a->Ends N E m0 Q R->c.wp P R a E.w:=by
 have tidied:∀ (c:Code),(∀ (cc:CC),(∀ g b,cc≠ .tidy g b)->(∀ a b,cc≠ .cat a b)->∀ (s:St) (Q:AE->St->Prop) (E:Env) (a:Act) (R:Exit->Act->World->Prop),comp P c=some cc.bare->cc.fits N.n=true->cc.base m0=true->m0<=s.H.length ->
  aw P cc Q s->Match N E s.r.get s.H a->Ends N E m0 Q R->c.wp P R a E.w)->∀ (cc:CC) (s:St) (Q:AE->St->Prop) (E:Env) (a:Act) (R:Exit->Act->World->Prop),comp P c=some cc.bare->cc.fits N.n=true->cc.base m0=true->m0<=s.H.length ->
  aw P cc Q s->Match N E s.r.get s.H a->Ends N E m0 Q R->c.wp P R a E.w:=by
  intro c h0 cc
  induction cc with
  | tidy g b ih =>
    intro s Q E a R hc hf hb h0 h m hR
    simp only [CC.base,Bool.and_eq_true,decide_eq_true_eq] at hb
    refine ih s _ E a R hc hf hb.2 h0 h m fun e v a' E' s' m' t' hv q=>?_
    cases e with
    | normal =>
      obtain ⟨s1,h1,h2⟩:=q
      obtain ⟨E1,k1,k2,k3⟩:=kN h1 hb.1 t'.num m'
      show R .normal a' E'.w
      rw [<- k1]
      exact hR .normal v a' E1 s1 k2 ((t'.cut (Nat.le_refl _)).iQ k3) trivial h2
    | exit id=>exact hR (.exit id) v a' E' s' m' t' hv q
    | ret=>exact hR .ret v a' E' s' m' t' hv q
    | pan x=>exact hR (.pan x) v a' E' s' m' t' hv q
  | cat x y ihx ihy =>
    intro s Q E a R hc hf hb hm0 h m hR
    cases hops:(CC.cat x y).ops with
    | none=>simp only [CC.bare,hops,CC.aHB] at hc;exact (zB hc).elim
    | some cl =>
      simp only [CC.bare,hops,CC.aHB] at hc
      obtain ⟨id,ops,rfl,hl⟩:=aIS hc
      have key:=aF2 (N:=N) (m0:=m0) (ops:=ops) [] (.cat x y) cl ops.toList s Q E a R hops hl (xM _ _ hl (oR _ _ hops hf)) hb hm0 h m (fun a' E' s' m' t' q=>hR .normal undef a' E' s' m' t' trivial q) fun a' E' s' v x m' t' hv q=>hR (.pan x) v a' E' s' m' t' hv q
      rw [List.append_nil] at key
      exact wp_region_list key
  | bad=>intro s Q E a R hc;exact (zB hc).elim
  | _=>exact h0 _ (by intro g b;simp) (by intro g b;simp)
 induction c with
 | skip =>
   refine tidied _ fun cc hT hT2 s Q E a R hc hf hB h0 h m hR=>?_
   simp only [comp,Option.some.injEq] at hc
   cases cc<;>simp only [CC.bare,reduceCtorEq] at hc<;>first|exact absurd rfl (hT _ _)|exact absurd rfl (hT2 _ _)|skip
   exact wp_skip (hR .normal undef a E s m ((Trans.refl _ _).cut h0) trivial h)
 | region id ops d =>
   refine tidied _ fun cc hT hT2 s Q E a R hc hf hB h0 h m hR=>?_
   simp only [comp] at hc
   split at hc
   · rename_i l hl
     have fin:∀ (frz:List Nat) (keep:Option (List Nat)) (a':Act) (E':Env) (s':St),Match N E' s'.r.get s'.H a'->Trans E s.H.length E' s'.H.length->y2 frz s' (fun s''=>Q .normal (dM keep s''))->R .normal a' E'.w:=fun frz keep a' E' s' m' t' h'=>by
      obtain ⟨E2,s2,k1,k2,k3,k4,k5⟩:=vH frz s' E' _ h' m'
      rw [<- k3]
      have k6:=t'.trans k5
      have e:(dM keep s2).H=s2.H:=by unfold dM;split<;>rfl
      exact hR .normal undef a' E2 _ (jO k2) (by rw [e];exact k6.cut h0) trivial k1
     cases d with
     | false =>
       simp only [Bool.false_eq_true,if_false,Option.some.injEq] at hc
       cases cc<;>simp only [CC.bare,reduceCtorEq,CC.reg.injEq] at hc<;>first|exact absurd rfl (hT _ _)|exact absurd rfl (hT2 _ _)|skip
       rename_i co dr frz keep
       obtain ⟨hco,rfl,_,_⟩:=hc
       simp only [Bool.false_eq_true,if_false] at hco
       subst hco
       simp only [aw] at h
       have key:=m7 [] _ co s E a _ _ R hl (xM _ _ hl hf) h m (fun a' E' s' m' t' h'=>fin frz keep a' E' s' m' t' h') fun a' E' s' v x m' t' hv h'=>hR (.pan x) v a' E' s' m' (t'.cut h0) hv h'
       rw [List.append_nil] at key
       exact wp_region_list key
     | true =>
       simp only [if_true] at hc
       split at hc
       · rename_i hlex0
         have hlex:aAx ops l=true:=by
          rw [Bool.and_eq_true] at hlex0
          exact hlex0.2
         cases cc<;>simp only [CC.bare,reduceCtorEq,Option.some.injEq,CC.reg.injEq] at hc<;>first|exact absurd rfl (hT _ _)|exact absurd rfl (hT2 _ _)|skip
         rename_i co dr frz keep
         obtain ⟨hco,hdr,_,_⟩:=hc
         subst hdr
         simp only [if_true] at hco
         subst hco
         simp only [aw] at h
         have hlen:=(mO _ _ hl).1
         rw [List.length_map] at hlen
         rw [aAw] at hlex
         have hls:co.length=ops.size:=by rw [hlen];simp
         obtain ⟨hd1,hd2⟩:=aFp hlex hls
         have hA:=zM (ops:=ops) (cl:=co) hls hd1 hd2 co 0 (Array.replicate ops.size false) ⟨s.r.get,s.H⟩ (by omega) (fun j=>by simp) (fun j=>by
          rw [Array.getD_eq_getD_getElem?,Array.getElem?_replicate]
          split<;>simp<;>omega) (by simp)
          (lJ (Kp:=fun _ _=>False) co s (fun f=>∃ s',s'.r.get=f.r/\s'.H=f.H/\y2 frz s' (fun s''=>Q .normal (dM keep s''))) (m9 (fun s' h'=>⟨s',rfl,rfl,h'⟩) co s h))
         rw [hls] at hA
         refine wp_region_any hmix ?_
         have m':Match N E.drew s.r.get s.H a:=⟨j6 m.hm,fun t=>(m.regs t).trans m.hm cC,m.size,m.defers⟩
         exact qH hl (aG4 _ _ hl hf) _ _ ⟨s.r.get,s.H⟩ E.drew a _ R hA m' fun a' E' f m2 t2 ⟨s',h1,h2,h3⟩=>by
          rw [<- h1,<- h2] at m2
          rw [<- h2] at t2
          exact fin frz keep a' E' s' m2 ((cC (H:=s.H)).trans t2) h3
       · split at hc
         · rename_i L hL
           cases cc<;>simp only [CC.bare,reduceCtorEq,Option.some.injEq,CC.sch.injEq] at hc<;>first|exact absurd rfl (hT _ _)|exact absurd rfl (hT2 _ _)|skip
           rename_i co dr frz keep
           obtain ⟨rfl,rfl,_,_⟩:=hc
           simp only [aw] at h
           have hls:l.length=ops.size:=by rw [(mO _ _ hl).1];simp
           let Kp:AV->FSt->Prop:=fun x f=>∃ s',Q (.pan x) s'/\s'.H=f.H/\∀ q,s'.r.get q=if L.p7.contains q then .top else f.r q
           have hins:∀ o∈L.inner,o.op.cls= .light->∀ x r G y,Kp x ⟨bT r o.dst y,G⟩->Kp x ⟨r,G⟩:=fun o ho hl x r G y ⟨s',k1,k2,k3⟩=>by
            refine ⟨s',k1,k2,fun q=>?_⟩
            rw [k3 q]
            cases hd:o.dst with
            | none=>rfl
            | some d =>
              by_cases hq:d=q
              · subst hq
                have hm:d∈L.p7:=List.mem_filterMap.2 ⟨o,ho,by rw [if_pos hl,hd]⟩
                have:L.p7.contains d=true:=List.contains_iff_mem.2 hm
                rw [if_pos this,if_pos this]
              · simp only [bT,if_neg hq]
           have hA:=v9 hls hL hins ⟨s.r.get,s.H⟩ (mE (Kp:=fun x s'=>Q (.pan x) ⟨qY L.p7 s'.r,s'.H⟩) (Kp2:=Kp) (fun x r G h=>⟨_,h,rfl,fun q=>vJ _ _ _⟩) _ s (fun f=>∃ s',s'.r.get=f.r/\s'.H=f.H/\y2 frz s' (fun s''=>Q .normal (dM keep s''))) (sV (fun s' h'=>⟨s',rfl,rfl,h'⟩) _ s h))
           refine wp_region_any hmix ?_
           have m':Match N E.drew s.r.get s.H a:=⟨j6 m.hm,fun t=>(m.regs t).trans m.hm cC,m.size,m.defers⟩
           exact n9 hl (rI _ _ hl (xG hL hf)) _ _ ⟨s.r.get,s.H⟩ E.drew a _ _ R hA m' (fun a' E' f m2 t2 ⟨s',h1,h2,h3⟩=>by
            rw [<- h1,<- h2] at m2
            rw [<- h2] at t2
            exact fin frz keep a' E' s' m2 ((cC (H:=s.H)).trans t2) h3) fun a' E' f v x m2 t2 hv ⟨s',k1,k2,k3⟩=>by
             rw [<- k2] at m2 t2 hv
             exact hR (.pan x) v a' E' s' ⟨m2.hm,fun q=>by rw [k3 q];split;exact .top;exact m2.regs q,m2.size,m2.defers⟩ (((cC (H:=s.H)).trans t2).cut h0) hv k1
         · cases hc
   · cases hc
 | seq x y ihx ihy =>
   refine tidied _ fun cc hT hT2 s Q E a R hc hf hB h0 h m hR=>?_
   simp only [comp] at hc
   split at hc
   · rename_i x' y' hx hy
     cases cc<;>simp only [CC.bare,reduceCtorEq,Option.some.injEq,CC.seq.injEq] at hc<;>first|exact absurd rfl (hT _ _)|exact absurd rfl (hT2 _ _)|skip
     rename_i cx cy
     obtain ⟨rfl,rfl⟩:=hc
     simp only [CC.fits,Bool.and_eq_true] at hf
     simp only [CC.base,Bool.and_eq_true] at hB
     simp only [aw] at h
     exact wp_seq (ihx cx s _ E a _ hx hf.1 hB.1 h0 h m (hR.then fun a' E' s' m' t' h'=>ihy cy s' Q E' a' R hy hf.2 hB.2 t'.num h' m' (fun e v a2 E2 s2 m2 t2 hv q2=>hR e v a2 E2 s2 m2 (t'.iQ t2) hv q2)))
   · cases hc
 | cond c t e iht ihe =>
   refine tidied _ fun cc hT hT2 s Q E a R hc hf hB h0 h m hR=>?_
   simp only [comp] at hc
   split at hc
   · rename_i x' y' hx hy
     cases cc<;>simp only [CC.bare,reduceCtorEq,Option.some.injEq,CC.cond.injEq] at hc<;>first|exact absurd rfl (hT _ _)|exact absurd rfl (hT2 _ _)|skip
     rename_i c' ct ce
     obtain ⟨rfl,rfl,rfl⟩:=hc
     simp only [CC.fits,Bool.and_eq_true] at hf
     simp only [CC.base,Bool.and_eq_true] at hB
     simp only [aw] at h
     split at h
     · rename_i b hb
       have hv:=m.ev (x:=c)
       rw [hb] at hv
       refine wp_cond hv.gS ?_
       cases b
       · exact ihe ce s Q E a R hy hf.2 hB.2 h0 (by simpa using h) m hR
       · exact iht ct s Q E a R hx hf.1 hB.1 h0 (by simpa using h) m hR
     · exact h.elim
   · cases hc
 | block id b ih =>
   refine tidied _ fun cc hT hT2 s Q E a R hc hf hB h0 h m hR=>?_
   simp only [comp] at hc
   split at hc
   · rename_i x' hx
     cases cc<;>simp only [CC.bare,reduceCtorEq,Option.some.injEq,CC.block.injEq] at hc<;>first|exact absurd rfl (hT _ _)|exact absurd rfl (hT2 _ _)|skip
     rename_i keep i cb
     obtain ⟨_,rfl,rfl⟩:=hc
     simp only [aw] at h
     have hR':∀ a' E' s',Match N E' s'.r.get s'.H a'->Trans E m0 E' s'.H.length->Q .normal (dM keep s')->R .normal a' E'.w:=fun a' E' s' m' t' q =>
      hR .normal undef a' E' _ (jO m') (by rw [p8];exact t') trivial q
     refine wp_block (ih cb s _ E a _ hx hf hB h0 h m fun e v a' E' s' m' t' hv q=>?_)
     cases e with
     | normal=>exact hR' a' E' s' m' t' q
     | ret=>exact hR .ret v a' E' s' m' t' hv q
     | pan x=>exact hR (.pan x) v a' E' s' m' t' hv q
     | exit j =>
       simp only [kI] at q
       simp only [AE.aGx,Exit.inBlock]
       split
       · rename_i hj
         rw [if_pos hj] at q
         exact hR' a' E' s' m' t' q
       · rename_i hj
         rw [if_neg hj] at q
         exact hR (.exit j) v a' E' s' m' t' hv q
   · cases hc
 | loop b ih =>
   refine tidied _ fun cc hT hT2 s Q E a R hc hf hB h0 h m hR=>?_
   simp only [comp] at hc
   split at hc
   · rename_i x' hx
     cases cc<;>simp only [CC.bare,reduceCtorEq,Option.some.injEq,CC.loop.injEq] at hc<;>first|exact absurd rfl (hT _ _)|exact absurd rfl (hT2 _ _)|skip
     rename_i g keep cb
     obtain ⟨_,_,rfl⟩:=hc
     simp only [CC.base,Bool.and_eq_true,decide_eq_true_eq] at hB
     simp only [aw] at h
     obtain ⟨I,⟨n0,s0,hs0,hI⟩,hround⟩:=h
     obtain ⟨E0,e0,me0,te0⟩:=kN hs0 hB.1 (by rw [p8];exact h0) (jO m)
     refine aFn (fun n a' w'=>∃ E' s',E'.w=w'/\Match N E' s'.r.get s'.H a'/\Trans E m0 E' s'.H.length/\I n s') (fun n a' w' hI'=>?_) n0 a E.w ⟨E0,s0,e0,me0,te0,hI⟩
     obtain ⟨E',s',rfl,m',t',hI'⟩:=hI'
     refine ih cb s' _ E' a' _ hx hf hB.2 t'.num (hround n s' hI') m' (Ends.then (fun e v a2 E2 s2 m2 t2 hv q2=>hR e v a2 E2 s2 m2 (t'.iQ t2) hv q2) fun a2 E2 s2 m2 t2 q2=>?_)
     obtain ⟨k,s1,hk,hs1,hI2⟩:=q2
     obtain ⟨E3,e3,me3,te3⟩:=kN hs1 hB.1 (by rw [p8];exact t2.num) (jO m2)
     exact ⟨k,hk,E3,s1,e3,me3,(t'.iQ t2).iQ te3,hI2⟩
   · cases hc
 | exit id =>
   refine tidied _ fun cc hT hT2 s Q E a R hc hf hB h0 h m hR=>?_
   simp only [comp,Option.some.injEq] at hc
   cases cc<;>simp only [CC.bare,reduceCtorEq,CC.exit.injEq] at hc<;>first|exact absurd rfl (hT _ _)|exact absurd rfl (hT2 _ _)|skip
   subst hc
   exact wp_exit (hR (.exit id) undef a E s m ((Trans.refl _ _).cut h0) trivial h)
 | ret =>
   refine tidied _ fun cc hT hT2 s Q E a R hc hf hB h0 h m hR=>?_
   simp only [comp,Option.some.injEq] at hc
   cases cc<;>simp only [CC.bare,reduceCtorEq] at hc<;>first|exact absurd rfl (hT _ _)|exact absurd rfl (hT2 _ _)|skip
   exact wp_ret (hR .ret undef a E s m ((Trans.refl _ _).cut h0) trivial h)
 | _=>intro cc s Q E a R hc;simp [comp] at hc
structure aZ (P:Program) (f:FuncId) (cc:CC) (rs:List Nat) (N:Nat):Prop where
 mix:P.follows .mixedOrders=true
 is:∃ fn body,P.funcs[f]?=some fn/\fn.body=some body/\(fn.name== "runtime.NumGoroutine")=false/\comp P body=some cc.bare/\cc.fits N=true/\fn.ntmps=N/\fn.results=(rs.map ResultVar.tmp).toArray
theorem aZ.of {P:Program} {f:FuncId} {cc:CC} {rs:List Nat} {N:Nat} (fn:Func) {body:Code} (h1:P.funcs[f]?=some fn) (h2:fn.body=some body) (h0:P.follows .mixedOrders=true:=by kernel_rfl) (h3:(fn.name== "runtime.NumGoroutine")=false:=by kernel_rfl) (h4:comp P body=some cc.bare:=by kernel_rfl) (h5:cc.fits N=true:=by kernel_rfl) (h6:fn.ntmps=N:=by kernel_rfl) (h7:fn.results=(rs.map ResultVar.tmp).toArray:=by kernel_rfl):aZ P f cc rs N:=⟨h0,fn,body,h1,h2,h3,h4,h5,h6,h7⟩
def lX:Nat->List AV->bX
 | _,[]=>[]
 | k,a :: l=>(k,a) :: lX (k+1) l
theorem p9:∀ (l:List AV) (k t:Nat),(lX k l).get t=if k<=t then l.getD (t-k) .top else .top
 | [],k,t=>by simp [lX,bX.get]
 | a :: l,k,t=>by
   simp only [lX,bX.get]
   by_cases h:k=t
   · subst h;simp
   · rw [if_neg h,p9 l (k+1) t]
     by_cases h1:k<=t
     · have h2:k+1<=t:=by omega
       rw [if_pos h1,if_pos h2]
       have:t-k=(t-(k+1))+1:=by omega
       rw [this,List.getD_cons_succ]
     · rw [if_neg h1,if_neg (by omega)]
def qO (rs:List Nat) (r:Nat->AV):AV :=
 match rs with
 | [t]=>r t
 | ts=>.tup (ts.map r)
def aG1 (rs:List Nat) (Post:AV->List AO->Prop):AE->St->Prop
 | .exit _,_=>False
 | .pan _,_=>False
 | _,s=>Post (qO rs s.r.get) s.H
def aN5 (rs:List Nat) (Post PP:AV->List AO->Prop):AE->St->Prop
 | .exit _,_=>False
 | .pan x,s=>PP x s.H
 | _,s=>Post (qO rs s.r.get) s.H
theorem xL {P:Program} {fn:Func} {rs:List Nat} (h:fn.results=(rs.map ResultVar.tmp).toArray) (tmps:Array Value) (w:World) :
 (results fn tmps).run P w= .ok (if h:(rs.map fun t=>tmps.getD t undef).length=1 then (rs.map fun t=>tmps.getD t undef)[0] else .tuple (rs.map fun t=>tmps.getD t undef).toArray) w:=by
 have key:∀ (F:ResultVar->Sem Value) (l:List Nat),(∀ t,F (.tmp t)=pure (tmps.getD t undef))->(List.mapM F (l.map ResultVar.tmp)).run P w= .ok (l.map fun t=>tmps.getD t undef) w:=by
  intro F l hF
  induction l with
  | nil=>simp
  | cons t l ih=>rw [List.map_cons,List.mapM_cons,hF,pure_bind,Sem.run_bind,ih,Result.andThen_ok,Sem.run_pure,List.map_cons]
 unfold results
 rw [h,List.mapM_toArray]
 simp only [map_eq_pure_bind,bind_assoc,Sem.run_bind]
 rw [key _ rs (fun t=>rfl),Result.andThen_ok]
 simp only [pure_bind,Sem.run_pure,List.size_toArray,List.getElem_toArray,Result.andThen_ok]
theorem aQx {E:Env} {n:Nat} {tmps:Array Value} {r:Nat->AV} (h:∀ t,E.VR n (tmps.getD t undef) (r t)):∀ rs:List Nat,
 E.VR n (if h:(rs.map fun t=>tmps.getD t undef).length=1 then (rs.map fun t=>tmps.getD t undef)[0] else .tuple (rs.map fun t=>tmps.getD t undef).toArray) (qO rs r)
 | []=>.tup (vs:=[]) rfl (fun k y hk=>by simp at hk)
 | [t]=>by simpa [qO] using h t
 | t :: u :: l=>by
   rw [dif_neg (by simp)]
   refine .tup (by simp) (fun k y hk=>?_)
   rw [List.getElem?_map] at hk
   rw [List.getD_eq_getElem?_getD,List.getElem?_map]
   cases hq:(t :: u :: l)[k]? with
   | none=>rw [hq] at hk;simp at hk
   | some q =>
     rw [hq] at hk
     simp only [Option.map_some,Option.some.injEq] at hk
     subst hk
     exact h q
theorem aGd {P:Program} {f:FuncId} {cc:CC} {rs:List Nat} {N:Nat} {args:List AV} {H:List AO} {Post PP:AV->List AO->Prop} (hf:aZ P f cc rs N) (hn:args.length<=N) (hb:cc.base H.length=true)
 (h:aw P cc (aN5 rs Post PP) ⟨lX 0 args,H⟩):dK P f args H Post PP:=by
 obtain ⟨hmix,fn,body,h1,h2,h3,h4,h5,h6,h7⟩:=hf
 refine ⟨by simp [mQ,h1,h2,h3],fun E vs hm hl hv=>?_⟩
 refine calls_of_wp h1 h2 ?_
 refine tL (N:=⟨N,[]⟩) (m0:=H.length) hmix body cc _ _ E _ _ h4 h5 hb (Nat.le_refl _) h ⟨hm,fun t=>?_,by simp;omega,rfl⟩ ?_
 · simp only
   rw [p9,if_pos (Nat.zero_le t),Nat.sub_zero]
   by_cases ht:t<args.length
   · have hx:=hv t _ (List.getElem?_eq_getElem ht)
     have e1:(vs.toArray++Array.replicate (fn.ntmps-vs.toArray.size) undef).getD t undef=vs.getD t undef:=by
      rw [Array.getD_eq_getD_getElem?,Array.getElem?_append_left (by simp;omega),List.getD_eq_getElem?_getD]
      simp
     rw [e1,List.getD_eq_getElem?_getD (l:=args),List.getElem?_eq_getElem ht]
     exact hx
   · rw [List.getD_eq_getElem?_getD,List.getElem?_eq_none (by omega)]
     exact .top
 · intro e v0 a' E' s' m t hv0 q
   have fin:Post (qO rs s'.r.get) s'.H->a'.defers=[]/\∃ v,(results fn a'.tmps).run P E'.w= .ok v E'.w/\((∃ v' y H' E'',Ending.returned v= .returned v'/\E''.w=E'.w/\E''.VR H'.length v' y/\HM E'' H'/\Trans E H.length E'' H'.length/\Post y H') ∨
    (∃ v' x H' E'',Ending.returned v= .panicked [⟨v',false,false⟩]/\E''.w=E'.w/\E''.VR H'.length v' x/\HM E'' H'/\Trans E H.length E'' H'.length/\PP x H')):=fun q =>
    ⟨m.defers,_,xL h7 _ _,.inl ⟨_,_,s'.H,E',rfl,rfl,aQx m.regs rs,m.hm,t,q⟩⟩
   cases e with
   | normal=>exact fin q
   | ret=>exact fin q
   | exit id=>exact q.elim
   | pan x=>exact ⟨m.defers,.inr ⟨v0,x,s'.H,E',rfl,rfl,hv0,m.hm,t,q⟩⟩
theorem dK.never {P:Program} {f:FuncId} {args:List AV} {H:List AO} {Post PP:AV->List AO->Prop} (h:dK P f args H Post PP) (hp:∀ x G,¬ PP x G):aW P f args H Post :=
 ⟨h.1,fun E vs hm hl hv=>(h.2 E vs hm hl hv).mono fun e w' q=>by
   rcases q with q|⟨v,x,H',E',_,_,_,_,_,h6⟩
   · exact q
   · exact (hp _ _ h6).elim⟩
theorem z7 {rs:List Nat} {Post:AV->List AO->Prop}:aG1 rs Post=aN5 rs Post fun _ _=>False:=by
 funext e s
 cases e<;>rfl
theorem zL {P:Program} {f:FuncId} {cc:CC} {rs:List Nat} {N:Nat} {args:List AV} {H:List AO} {Post:AV->List AO->Prop} (hf:aZ P f cc rs N) (hn:args.length<=N) (hb:cc.base H.length=true)
 (h:aw P cc (aG1 rs Post) ⟨lX 0 args,H⟩):aW P f args H Post :=
 (aGd hf hn hb (z7 ▸ h)).never fun _ _ h=>h
theorem aK {P:Program} {f:FuncId} {cc:CC} {rs:List Nat} {N:Nat} {args:List AV} {Post:AV->List AO->Prop} (hf:aZ P f cc rs N) (hn:args.length<=N)
 (h:aw P cc (aG1 rs Post) ⟨lX 0 args,[]⟩):aW P f args [] Post:=zL hf hn cc.eJ h
theorem aW.mono {P:Program} {f:FuncId} {args:List AV} {H:List AO} {Post Post':AV->List AO->Prop} (h:aW P f args H Post) (hp:∀ y G,Post y G->Post' y G):aW P f args H Post' :=
 ⟨h.1,fun E vs hm hl hv=>(h.2 E vs hm hl hv).mono fun e w' ⟨v,y,H',E',h1,h2,h3,h4,h5,h6⟩=>⟨v,y,H',E',h1,h2,h3,h4,h5,hp _ _ h6⟩⟩
theorem kS {P:Program} {K K':St->Prop} {Kp Kp':AV->St->Prop} (hk:∀ s,K s->K' s) (hp:∀ x s,Kp x s->Kp' x s) (d:Bool):∀ (l:List aP) (s:St),cF P d l s K Kp->cF P d l s K' Kp'
 | [],s,h=>hk s h
 | o :: l,s,h=>by
   cases d with
   | true=>exact m9 hk (o :: l) s h
   | false =>
     simp only [cF,Bool.false_eq_true,if_false] at h ⊢
     exact bS (gM (fun y G=>kS hk hp false l _) fun x G=>hp _ _) (kS hk hp false l _) h
theorem sW {P:Program} {K K':St->Prop} {Kp Kp':AV->St->Prop} (hk:∀ s,K s->K' s) (hp:∀ x s,Kp x s->Kp' x s):∀ (t:OT) (s:St),otK P t s K Kp->otK P t s K' Kp'
 | .fin l,s,h=>kS hk hp false l s h
 | .pre l a b,s,h=>by
   simp only [otK] at h ⊢
   exact kS (fun s' h'=>⟨sW hk hp a s' h'.1,sW hk hp b s' h'.2⟩) hp false l s h
theorem nE {K K':St->Prop} (hk:∀ s,K s->K' s):∀ (l:List Nat) (s:St),tF l s K->tF l s K'
 | [],s,h=>hk s h
 | id :: l,s,h=>by
   unfold tF at h ⊢
   split at h
   · exact nE hk l _ h
   · rename_i hn
     exact nE hk l _ h
theorem gY {K K':St->Prop} {Q Q':AE->St->Prop} (hk:∀ s,K s->K' s) (hq:∀ e s,Q e s->Q' e s) (e:AE) (s:St) (h:iT K Q e s):iT K' Q' e s:=by
 cases e with
 | normal=>exact hk s h
 | exit id=>exact hq _ s h
 | ret=>exact hq _ s h
 | pan x=>exact hq _ s h
theorem gU {P:Program}:∀ (c:CC) {Q Q':AE->St->Prop} (hq:∀ e s,Q e s->Q' e s) (s:St),aw P c Q s->aw P c Q' s
 | .skip,Q,Q',hq,s,h=>hq _ _ h
 | .reg ops d frz keep,Q,Q',hq,s,h=>kS (fun s' h'=>nE (fun s2 h2=>hq _ _ h2) _ _ h') (fun x s' h'=>hq _ _ h') d ops s h
 | .sch ops dr frz keep,Q,Q',hq,s,h=>sW (fun s' h'=>nE (fun s2 h2=>hq _ _ h2) _ _ h') (fun x s' h'=>hq _ _ h') ops s h
 | .seq a b,Q,Q',hq,s,h=>gU a (gY (fun s' h'=>gU b hq s' h') hq) s h
 | .cond c t e,Q,Q',hq,s,h=>by
   simp only [aw] at h ⊢
   split at h
   · split at h
     · rename_i hb;rw [if_pos hb];exact gU t hq s h
     · rename_i hb;rw [if_neg hb];exact gU e hq s h
   · exact h.elim
 | .block keep id b,Q,Q',hq,s,h=>gU b (fun e s' h'=>by
     cases e with
     | normal=>exact hq _ _ h'
     | exit i =>
       simp only [kI] at h' ⊢
       split at h'
       · rename_i hi;rw [if_pos hi];exact hq _ _ h'
       · rename_i hi;rw [if_neg hi];exact hq _ _ h'
     | ret=>exact hq _ _ h'
     | pan x=>exact hq _ _ h') s h
 | .tidy g b,Q,Q',hq,s,h=>gU b (gY (fun s' ⟨s1,h1,h2⟩=>⟨s1,h1,hq _ _ h2⟩) hq) s h
 | .cat a b,Q,Q',hq,s,h=>gU a (gY (fun s' h'=>gU b hq s' h') hq) s h
 | .bad,Q,Q',hq,s,h=>h
 | .loop g keep b,Q,Q',hq,s,h=>by
   simp only [aw] at h ⊢
   obtain ⟨I,h0,h1⟩:=h
   exact ⟨I,h0,fun n s' hI=>gU b (gY (fun _ h=>h) hq) s' (h1 n s' hI)⟩
 | .exit id,Q,Q',hq,s,h=>hq _ _ h
 | .ret,Q,Q',hq,s,h=>hq _ _ h
theorem aS1 {P:Program} {a b:CC} {Q:AE->St->Prop} {s:St} (M:St->Prop) (h:aw P a (iT M Q) s) (hb:∀ s',M s'->aw P b Q s'):aw P (.seq a b) Q s:=by
 simp only [aw]
 exact gU a (gY hb fun _ _ h=>h) s h
theorem aF {P:Program} {g:Nat} {keep:Option (List Nat)} {b:CC} {Q:AE->St->Prop} {s:St} {σ:Type} (inv:σ->St) (ok:σ->Prop) (μ:σ->Nat) (i0:σ) (h0:Sub g (dM keep s) (inv i0)) (h1:ok i0)
 (h:∀ i,ok i->aw P b (iT (fun s''=>∃ j,Sub g (dM keep s'') (inv j)/\ok j/\μ j<μ i) Q) (inv i)):aw P (.loop g keep b) Q s:=by
 simp only [aw]
 refine ⟨fun n s'=>∃ i,s'=inv i/\ok i/\μ i=n,⟨μ i0,_,h0,i0,rfl,h1,rfl⟩,fun n s' ⟨i,hs,hi,hn⟩=>?_⟩
 subst hs hn
 exact gU b (gY (fun s2 ⟨j,hj,hj2,hj3⟩=>⟨μ j,_,hj3,hj,j,rfl,hj2,rfl⟩) fun _ _ h=>h) _ (h i hi)
def names (ρ:List (Option Nat)) (i:Nat):Option Nat:=ρ.getD i none
theorem Sub.of {g:Nat} {s:St} {r1:bX} {H1:List AO} (ρ:List (Option Nat)) (h1:(List.range g).all (fun i=>names ρ i==some i)=true) (h2:g<=H1.length) (hn:(ρ.filterMap fun x=>x).Nodup)
 (h3:∀ i,i<H1.length->(∃ j,names ρ i=some j/\s.H[j]?=some ((H1.getD i .dead).ro (names ρ)))∨(names ρ i=none/\(H1.getD i .dead).empty=true)) (h4:H1.all (fun o=>o.bo (names ρ) H1.length)=true)
 (h5:∀ p∈r1,wk0 (s.r.get p.1) (p.2.ro (names ρ))/\p.2.bo (names ρ) H1.length=true):Sub g s ⟨r1,H1⟩:=by
 refine .inr (.inl ⟨names ρ,fun i hi=>?_,h2,⟨fun i j k hi hj ei ej=>?_,fun id o ho=>?_,fun id o ho=>List.all_eq_true.1 h4 o (List.mem_of_getElem? ho)⟩,h5⟩)
 · exact beq_iff_eq.1 (List.all_eq_true.1 h1 i (List.mem_range.2 hi))
 · have key:∀ (l:List (Option Nat)) (i j k:Nat),(l.filterMap fun x=>x).Nodup->l.getD i none=some k->l.getD j none=some k->i=j:=by
    intro l
    induction l with
    | nil=>intro i j k _ h;simp at h
    | cons a l ih =>
      intro i j k hnd h1 h2
      have mem:∀ q,l.getD q none=some k->k∈l.filterMap fun x=>x:=fun q hq=>by
       refine List.mem_filterMap.2 ⟨some k,?_,rfl⟩
       rw [List.getD_eq_getElem?_getD] at hq
       cases hx:l[q]? with
       | none=>rw [hx] at hq;cases hq
       | some v=>rw [hx] at hq;simp at hq;subst hq;exact List.mem_of_getElem? hx
      cases i with
      | zero =>
        cases j with
        | zero=>rfl
        | succ j =>
          simp only [List.getD_cons_zero] at h1
          subst h1
          simp only [List.filterMap_cons,List.nodup_cons] at hnd
          exact absurd (mem j (by simpa using h2)) hnd.1
      | succ i =>
        cases j with
        | zero =>
          simp only [List.getD_cons_zero] at h2
          subst h2
          simp only [List.filterMap_cons,List.nodup_cons] at hnd
          exact absurd (mem i (by simpa using h1)) hnd.1
        | succ j =>
          have hnd':(l.filterMap fun x=>x).Nodup:=by
           simp only [List.filterMap_cons] at hnd
           split at hnd
           · exact hnd
           · exact (List.nodup_cons.1 hnd).2
          rw [ih i j k hnd' (by simpa using h1) (by simpa using h2)]
   exact key ρ i j k hn ei ej
 · have hid:=(List.getElem?_eq_some_iff.1 ho).1
   have:=h3 id hid
   rw [List.getD_eq_getElem?_getD (l:=H1),ho] at this
   exact this
def cQ (H:List AO) (f:Nat->Option Nat):List (Option Nat)->List AO->Prop
 | [],[]=>True
 | some j :: ρ,o :: l=>H[j]?=some (o.ro f)/\cQ H f ρ l
 | none :: ρ,o :: l=>o.empty=true/\cQ H f ρ l
 | _,_=>False
theorem pY {H:List AO} {f:Nat->Option Nat}:∀ (ρ:List (Option Nat)) (l:List AO),cQ H f ρ l->∀ i,i<l.length->(∃ j,ρ.getD i none=some j/\H[j]?=some ((l.getD i .dead).ro f))∨(ρ.getD i none=none/\(l.getD i .dead).empty=true)
 | [],[],_,i,hi=>by simp at hi
 | some j :: ρ,o :: l,h,0,hi=>.inl ⟨j,rfl,h.1⟩
 | some j :: ρ,o :: l,h,i+1,hi=>by simpa using pY ρ l h.2 i (by simpa using hi)
 | none :: ρ,o :: l,h,0,hi=>.inr ⟨rfl,h.1⟩
 | none :: ρ,o :: l,h,i+1,hi=>by simpa using pY ρ l h.2 i (by simpa using hi)
def cV (r:bX) (f:Nat->Option Nat) (n:Nat):bX->Prop
 | []=>True
 | p :: l=>(wk0 (r.get p.1) (p.2.ro f)/\p.2.bo f n=true)/\cV r f n l
theorem uX {r:bX} {f:Nat->Option Nat} {n:Nat}:∀ (l:bX),cV r f n l->∀ p∈l,wk0 (r.get p.1) (p.2.ro f)/\p.2.bo f n=true
 | [],_,p,hp=>by cases hp
 | q :: l,h,p,hp=>by
   rcases List.mem_cons.1 hp with rfl|hp
   · exact h.1
   · exact uX l h.2 p hp
theorem Sub.ofL {g:Nat} {r:bX} {H:List AO} {r1:bX} {H1:List AO} (ρ:List (Option Nat)) (h1:(List.range g).all (fun i=>names ρ i==some i)=true) (h2:g<=H1.length) (hn:(ρ.filterMap fun x=>x).Nodup)
 (h3:cQ H (names ρ) ρ H1) (h4:H1.all (fun o=>o.bo (names ρ) H1.length)=true) (h5:cV r (names ρ) H1.length r1):Sub g ⟨r,H⟩ ⟨r1,H1⟩ :=
 Sub.of ρ h1 h2 hn (pY ρ H1 h3) h4 (uX r1 h5)
def aT (P:Program) (f:FuncId) (args:List AV) (y:AV):Prop:=aW P f args [] fun r _=>r=y
def Wk1 (r y:AV):Prop:=r=y∨(r= .aD/\∃ t z,y= .sl t z [])
def WkL:List AV->List AV->Prop
 | [],[]=>True
 | r :: rs,y :: ys=>Wk1 r y/\WkL rs ys
 | _,_=>False
def Wk (r y:AV):Prop:=Wk1 r y∨∃ rs ys,r= .tup rs/\y= .tup ys/\WkL rs ys
theorem Wk1.vr {r y:AV} (h:Wk1 r y) {E:Env} {n:Nat} {v:Value} (hv:E.VR n v r):E.VR n v y:=by
 rcases h with rfl|⟨rfl,t,z,rfl⟩
 · exact hv
 · rw [hv.fS];exact .sl0
theorem WkL.len:∀ {rs ys:List AV},WkL rs ys->rs.length=ys.length
 | [],[],_=>rfl
 | r :: rs,y :: ys,h=>by simp [WkL.len h.2]
 | [],y :: ys,h=>h.elim
 | r :: rs,[],h=>h.elim
theorem WkL.get:∀ {rs ys:List AV},WkL rs ys->∀ (k:Nat) (y:AV),ys[k]?=some y->∃ r,rs[k]?=some r/\Wk1 r y
 | [],[],_,k,y,h=>by simp at h
 | r :: rs,q :: ys,h,0,y,hk=>by simp at hk;subst hk;exact ⟨r,rfl,h.1⟩
 | r :: rs,q :: ys,h,k+1,y,hk=>by simpa using WkL.get h.2 k y (by simpa using hk)
 | [],y :: ys,h,_,_,_=>h.elim
 | r :: rs,[],h,_,_,_=>h.elim
theorem Wk.vr {r y:AV} (h:Wk r y) {E:Env} {n:Nat} {v:Value} (hv:E.VR n v r):E.VR n v y:=by
 rcases h with h|⟨rs,ys,rfl,rfl,h⟩
 · exact h.vr hv
 · obtain ⟨vs,rfl,hl,hk⟩:=hv.mU
   refine .tup (hl.trans h.len) fun k y hy=>?_
   obtain ⟨r,h1,h2⟩:=h.get k y hy
   exact h2.vr (hk k r h1)
theorem aT.wk {P:Program} {f:FuncId} {args:List AV} {y:AV} (h:aW P f args [] fun r _=>Wk r y):aT P f args y :=
 ⟨h.1,fun E vs hm hl hv=>(h.2 E vs hm hl hv).mono fun e w' ⟨v,y',H',E',h1,h2,h3,h4,h5,h6⟩=>⟨v,y,H',E',h1,h2,h6.vr h3,h4,h5,rfl⟩⟩
def AV.nK:AV->Bool
 | .own _ _ _ _| .ownx _ _ _ _ _| .ref _ _ _| .agg _| .tup _=>false
 | .fn _ f c=>f.isEmpty&&c.isEmpty
 | .ifc _ x=>x.mA
 | _=>true
def AV.yG:AV->Bool
 | .agg cs=>cs.all AV.nK
 | y=>y.nK
def AV.low:AV->Bool
 | .tup vs=>vs.all AV.yG
 | y=>y.yG
def AV.yN:AV->Bool
 | .sl t _ _| .ip t _=>t
 | .fn _ _ _| .agg _| .tup _=>true
 | _=>false
def AV.aBK:AV->Bool
 | .agg cs=>cs.any AV.yN
 | y=>y.yN
def AV.aM:AV->Bool
 | .tup vs=>vs.any AV.aBK
 | y=>y.aBK
section low
variable {w w':World} {S S':Bool->Nat->Prop} {μ μ':Nat->Option Loc} {n n':Nat} {x:Value} {y:AV}
theorem xZ (h:VR w S μ n x y) (hok:y.ok=true) (hS:∀ b,S false b->S' false b) (hc:∀ b o v,S false b->w.cell? ⟨b,o,none⟩=some v->w'.cell? ⟨b,o,none⟩=some v):VR w' S' μ' n' x y:=by
 induction h with
 | int=>exact .int
 | bool=>exact .bool
 | str h=>exact .str h
 | nilp=>exact .nilp
 | aD=>exact .aD
 | nilf=>exact .nilf
 | nili=>exact .nili
 | cD=>exact .cD
 | sl0=>exact .sl0
 | @sl t l b o c z m u hm hlen hS1 hel hc1 hv ih =>
   simp only [AV.ok,Bool.not_eq_true'] at hok
   subst hok
   refine .sl u hm hlen (hS _ hS1) hel (fun k hk=>hc _ _ _ hS1 (hc1 k hk)) fun k y hk=>ih k y hk ?_
   obtain ⟨a,ha,hy⟩:=List.mem_flatMap.1 (List.mem_of_getElem? hk)
   have:=hel a ha
   simp only [AV.el,Bool.and_eq_true,List.all_eq_true] at this
   exact this.2 y hy
 | own0 h=>simp [AV.ok] at hok
 | ownx0 h=>simp [AV.ok] at hok
 | ownx h=>simp [AV.ok] at hok
 | own h hL hz hlen hcap=>simp [AV.ok] at hok
 | ref h hL=>simp [AV.ok] at hok
 | ip u hS1 hok1 hc1 _ ih=>simp [AV.ok] at hok
 | agg hl h1 _ ih=>simp [AV.ok] at hok
 | tup hl _ ih=>simp [AV.ok] at hok
 | @fn f as bs cs ds hl hk _ _ ih1 ih2 =>
   simp only [AV.ok,Bool.and_eq_true,List.isEmpty_iff] at hok
   obtain ⟨rfl,rfl⟩:=hok
   exact .fn hl hk (fun k y hk=>by simp at hk) (fun k y hk=>by simp at hk)
 | @ifc t x y h ih =>
   simp only [AV.ok] at hok
   exact .ifc (ih (by cases y<;>simp_all [AV.mA,AV.ok]))
 | any h=>exact .any h
 | top=>exact .top
theorem aKY (h:y.mA=true):y.ok=true:=by cases y<;>simp_all [AV.mA,AV.ok]
theorem wF (h:VR w S μ n x y) (hl:y.nK=true) (hS:∀ t b,(t=true->y.yN=true)->S t b->S' t b) (hc:∀ t b o v,S t b->w.cell? ⟨b,o,none⟩=some v->w'.cell? ⟨b,o,none⟩=some v):VR w' S' μ' n' x y:=by
 have hS0:∀ b,S false b->S' false b:=fun b=>hS false b (by simp)
 cases h with
 | int=>exact .int
 | bool=>exact .bool
 | str h=>exact .str h
 | nilp=>exact .nilp
 | aD=>exact .aD
 | nilf=>exact .nilf
 | nili=>exact .nili
 | cD=>exact .cD
 | sl0=>exact .sl0
 | @sl t l b o c z m u hm hlen hS1 hel hc1 hv =>
   refine .sl u hm hlen (hS t _ (fun h=>by simp [AV.yN,h]) hS1) hel (fun k hk=>hc _ _ _ _ hS1 (hc1 k hk)) fun k y hk=>xZ (hv k y hk) ?_ hS0 (fun b o v=>hc false b o v)
   obtain ⟨a,ha,hy⟩:=List.mem_flatMap.1 (List.mem_of_getElem? hk)
   have:=hel a ha
   simp only [AV.el,Bool.and_eq_true,List.all_eq_true] at this
   exact this.2 y hy
 | own0 h=>simp [AV.nK] at hl
 | ownx0 h=>simp [AV.nK] at hl
 | ownx h=>simp [AV.nK] at hl
 | own h hL hz hlen hcap=>simp [AV.nK] at hl
 | ref h hL=>simp [AV.nK] at hl
 | @ip t cs b o u hS1 hok1 hc1 hv=>exact .ip u (hS t _ (fun h=>by simp [AV.yN,h]) hS1) hok1 (fun k hk=>hc _ _ _ _ hS1 (hc1 k hk)) fun k y hk=>xZ (hv k y hk) (hok1 y (List.mem_of_getElem? hk)) hS0 (fun b o v=>hc false b o v)
 | agg hl h1 _=>simp [AV.nK] at hl
 | tup hl _=>simp [AV.nK] at hl
 | @fn f as bs cs ds hl1 hk _ _ =>
   simp only [AV.nK,Bool.and_eq_true,List.isEmpty_iff] at hl
   obtain ⟨rfl,rfl⟩:=hl
   exact .fn hl1 hk (fun k y hk=>by simp at hk) (fun k y hk=>by simp at hk)
 | @ifc t x y h=>exact .ifc (xZ h (aKY hl) hS0 (fun b o v=>hc false b o v))
 | any h=>exact .any h
 | top=>exact .top
theorem aBG (h:VR w S μ n x y) (hl:y.yG=true) (hS:∀ t b,(t=true->y.aBK=true)->S t b->S' t b) (hc:∀ t b o v,S t b->w.cell? ⟨b,o,none⟩=some v->w'.cell? ⟨b,o,none⟩=some v):VR w' S' μ' n' x y:=by
 unfold AV.yG at hl
 split at hl
 · rename_i cs
   obtain ⟨vs,rfl,hlen,h1,hv⟩:=h.lR
   refine .agg hlen h1 fun k y hk=>wF (hv k y hk) (List.all_eq_true.1 hl y (List.mem_of_getElem? hk)) (fun t b ht=>hS t b fun e=>?_) hc
   exact List.any_eq_true.2 ⟨y,List.mem_of_getElem? hk,ht e⟩
 · rename_i hna
   refine wF h hl (fun t b ht=>hS t b fun e=>?_) hc
   have:=ht e
   unfold AV.aBK
   split
   · rename_i cs;exact absurd rfl (hna cs)
   · exact this
theorem wE (h:VR w S μ n x y) (hl:y.low=true) (hS:∀ t b,(t=true->y.aM=true)->S t b->S' t b) (hc:∀ t b o v,S t b->w.cell? ⟨b,o,none⟩=some v->w'.cell? ⟨b,o,none⟩=some v):VR w' S' μ' n' x y:=by
 unfold AV.low at hl
 split at hl
 · rename_i vs
   obtain ⟨us,rfl,hlen,hv⟩:=h.mU
   refine .tup hlen fun k y hk=>aBG (hv k y hk) (List.all_eq_true.1 hl y (List.mem_of_getElem? hk)) (fun t b ht=>hS t b fun e=>?_) hc
   exact List.any_eq_true.2 ⟨y,List.mem_of_getElem? hk,ht e⟩
 · rename_i hna
   refine aBG h hl (fun t b ht=>hS t b fun e=>?_) hc
   have:=ht e
   unfold AV.aM
   split
   · rename_i cs;exact absurd rfl (hna cs)
   · exact this
end low
def l9 (H:List AO):AV->AV
 | .own id z off len=>match rdS H z (.own id z off len) with
   | some l=>.sl true z l
   | none=>.own id z off len
 | y=>y
def bor (H:List AO):AV->AV
 | .agg cs=>.agg (cs.map (l9 H))
 | y=>l9 H y
section borrow
variable {P:Program} {E:Env} {H:List AO}
def Env.aMC (E:Env):Env:=⟨E.w,fun t b=>E.S t b∨(t=true/\b<E.w.heap.size),fun _=>none,fun _=>False⟩
theorem aBH (hm:HM E H):HM E.aMC [] :=
 ⟨fun id o h=>by simp at h,fun i j oi oj Li Lj _ h=>by simp at h,fun b h=>h.elim,fun b h=>h.elim,fun t b h=>h.elim (hm.sbound t b) (fun h=>h.2),fun b h=>h.elim (fun h=>.inl (hm.sub b h)) (fun h=>by cases h.1)⟩
theorem aEH (hm:HM E H) {v:Value} {y:AV} (h:E.VR H.length v y) (hl:(l9 H y).nK=true):E.aMC.VR 0 v (l9 H y):=by
 unfold l9 at hl ⊢
 split at hl
 · rename_i id z off len
   split at hl
   · rename_i l hr
     obtain ⟨A,c,rfl,hlc,hel,hrest⟩:=fE hm h hr
     rcases hrest with rfl|⟨b,o,u,rfl,hu⟩
     · exact .sl0
     · rcases h.cN.2 with ⟨A',he,hl0,_⟩|⟨L,c',hL,hLz,he,hle,hcap⟩
       · simp only [Value.slice.injEq] at he
         rw [List.eq_nil_of_length_eq_zero he.2.1]
         exact .sl0
       · have hbL:b=L.b:=by
          simp only [Value.slice.injEq,Option.some.injEq,Addr.mk.injEq] at he
          exact he.1.1
         have hb:b<E.w.heap.size:=by
          rw [hbL]
          simp only [rdS,if_true] at hr
          split at hr
          · rename_i z'' l'' hid
            exact hm.bound _ (Env.iA (hm.obj id _ hid) L hL rfl)
          · cases hr
         refine .sl u rfl hlc (.inr ⟨rfl,hb⟩) hel (fun k hk=>(hu k _ (List.getElem?_eq_getElem hk)).1) (fun k y hk=>xZ (hu k y hk).2 ?_ (fun b=>.inl) (fun _ _ _ _ h=>h))
         obtain ⟨a,ha,hy⟩:=List.mem_flatMap.1 (List.mem_of_getElem? hk)
         have:=hel a ha
         simp only [AV.el,Bool.and_eq_true,List.all_eq_true] at this
         exact this.2 y hy
   · simp [AV.nK] at hl
 · exact wF h hl (fun t b _=>.inl) (fun _ _ _ _ _ h=>h)
theorem aSW (hm:HM E H) {v:Value} {y:AV} (h:E.VR H.length v y) (hl:(bor H y).low=true):E.aMC.VR 0 v (bor H y):=by
 unfold bor at hl ⊢
 split at hl
 · rename_i cs
   obtain ⟨vs,rfl,hlen,h1,hv⟩:=h.lR
   simp only [AV.low,AV.yG,List.all_map,List.all_eq_true,Function.comp] at hl
   refine .agg (by simpa using hlen) (fun a ha=>?_) (fun k y hk=>?_)
   · obtain ⟨b,hb,rfl⟩:=List.mem_map.1 ha
     have h2:=h1 b hb
     unfold l9
     split
     · split<;>rfl
     · exact h2
   · rw [List.getElem?_map] at hk
     cases hc:cs[k]? with
     | none=>rw [hc] at hk;simp at hk
     | some q =>
       rw [hc] at hk
       simp only [Option.map_some,Option.some.injEq] at hk
       subst hk
       exact aEH hm (hv k q hc) (hl q (List.mem_of_getElem? hc))
 · rename_i hna
   have hb:∀ cs,l9 H y= .agg cs->y= .agg cs:=fun cs he=>by
    unfold l9 at he
    split at he
    · split at he<;>cases he
    · exact he
   by_cases hag:∃ cs,l9 H y= .tup cs
   · obtain ⟨cs,hcs⟩:=hag
     have hy:y= .tup cs:=by
      unfold l9 at hcs
      split at hcs
      · split at hcs<;>cases hcs
      · exact hcs
     subst hy
     exact wE h hl (fun t b _=>.inl) (fun _ _ _ _ _ h=>h)
   · refine aEH hm h ?_
     unfold AV.low at hl
     split at hl
     · rename_i vs hvs;exact absurd ⟨vs,hvs⟩ hag
     · unfold AV.yG at hl
       split at hl
       · rename_i cs hcs;exact absurd (hb cs hcs) (hna cs)
       · exact hl
def Env.aUn (E:Env):Env:=⟨E.w,E.S,fun _=>none,fun _=>False⟩
theorem aBu (hm:HM E H):HM E.aUn [] :=
 ⟨fun id o h=>by simp at h,fun i j oi oj Li Lj _ h=>by simp at h,fun b h=>h.elim,fun b h=>h.elim,hm.sbound,hm.sub⟩
def Env.back (E E':Env):Env:=⟨E'.w,fun t b=>E.S t b∨(E'.S t b/\E.w.heap.size<=b),E.μ,E.O⟩
theorem aEK (hm:HM E H) {E0 E':Env} {H':List AO} (h0:E0.w=E.w) (h1:∀ b,¬ E0.O b) (hm':HM E' H') (t:Trans E0 0 E' H'.length):HM (E.back E') H/\Trans E H.length (E.back E') H.length:=by
 have hk:∀ b,b<E.w.heap.size->E'.w.heap[b]?=E.w.heap[b]?:=fun b hb=>by
  rw [<- h0] at hb ⊢
  exact t.keep b hb (h1 b)
 have hsz:E.w.heap.size<=E'.w.heap.size:=by rw [<- h0];exact t.size
 have tr:Trans E H.length (E.back E') H.length:=⟨by rw [<- h0];exact t.os,by rw [<- h0];exact t.tape,by rw [<- h0];exact t.output,hsz,fun b hb _=>hk b hb,fun _ _ h=>.inl h,fun _ b h=>h.elim .inl (fun h=>.inr (.inr h.2)),fun _ h=>.inl h,fun _ _=>rfl,Nat.le_refl _⟩
 refine ⟨⟨fun k ok hk'=>Env.fI (hm.obj k ok hk') rfl (fun _ _ h=>h) (fun L hL hO=>hk _ (hm.bound _ hO)) (fun x y h=>h.trans hm tr),hm.inj,fun b hb tt hs=>?_,fun b hb=>Nat.lt_of_lt_of_le (hm.bound b hb) hsz,fun tt b hs=>?_,fun b hs=>?_⟩,tr⟩
 · rcases hs with hs|hs
   · exact hm.disj b hb tt hs
   · have:=hm.bound b hb
     omega
 · rcases hs with hs|hs
   · exact Nat.lt_of_lt_of_le (hm.sbound tt b hs) hsz
   · exact hm'.sbound _ b hs.1
 · rcases hs with hs|hs
   · exact .inl (hm.sub b hs)
   · exact .inr ⟨hm'.sub b hs.1,hs.2⟩
theorem aEJ {E0 E':Env} {n' m:Nat} {v:Value} {y:AV} (h0:E0.w=E.w) (h1:∀ b,¬ E0.O b) (t:Trans E0 0 E' n') (h:E'.VR n' v y) (hy:y.low=true) (hS:∀ t b,(t=true->y.aM=true)->E0.S t b->E.S t b):(E.back E').VR m v y :=
 wE h hy (fun tt b ht hs=>by
  rcases t.born tt b hs with hs'|hs'|hs'
  · exact .inl (hS tt b ht hs')
  · exact absurd hs' (h1 b)
  · exact .inr ⟨hs,by rw [<- h0];exact hs'⟩) (fun _ _ _ _ _ h=>h)
theorem rB {G:List AO} {a:AV} (h:(l9 H a).nK=true):l9 (H++G) a=l9 H a:=by
 unfold l9 at h ⊢
 split
 · simp only at h
   split at h
   · rename_i l hr
     rw [nX hr]
   · simp [AV.nK] at h
 · rfl
theorem yH {y:AV} (hl:y.low=true) (h1:∀ cs,y≠ .agg cs) (h2:∀ cs,y≠ .tup cs):y.nK=true:=by
 unfold AV.low at hl
 split at hl
 · rename_i vs;exact absurd rfl (h2 vs)
 · unfold AV.yG at hl
   split at hl
   · exact absurd rfl (h1 _)
   · exact hl
theorem tX {G:List AO} {a:AV} (h:(bor H a).low=true):bor (H++G) a=bor H a:=by
 unfold bor at h ⊢
 split
 · rename_i cs
   simp only [AV.low,AV.yG,List.all_map,List.all_eq_true,Function.comp] at h
   congr 1
   exact List.map_congr_left fun q hq=>rB (h q hq)
 · rename_i hna
   by_cases ho:∃ id z off len,a= .own id z off len
   · obtain ⟨id,z,off,len,rfl⟩:=ho
     refine rB (yH h (fun cs e=>?_) (fun cs e=>?_))<;>(unfold l9 at e;simp only at e;split at e<;>cases e)
   · unfold l9
     split
     · exact absurd ⟨_,_,_,_,rfl⟩ ho
     · rfl
def Env.sub (aM:Bool) (E:Env):Env:=if aM then E.aMC else E.aUn
def Vw (aM:Bool) (H:List AO) (a a':AV):Prop:=∀ (G:List AO) (E:Env) (v:Value),HM E (H++G)->E.VR (H++G).length v a->(E.sub aM).VR 0 v a'
theorem Vw.refl {aM:Bool} {a:AV} (h:a.low=true):Vw aM H a a:=fun G E v hm hv=>by
 cases aM with
 | true=>exact wE hv h (fun t b _ hs=>.inl hs) (fun _ _ _ _ _ h=>h)
 | false=>exact wE hv h (fun t b _ hs=>hs) (fun _ _ _ _ _ h=>h)
theorem Vw.bor {a:AV} (h:(bor H a).low=true):Vw true H a (bor H a):=fun G E v hm hv=>by
 have:=aSW hm hv (by rw [tX h];exact h)
 rwa [tX h] at this
theorem Vw.own {id z off len:Nat} {l:List AV} (h:rdS H z (.own id z off len)=some l):Vw true H (.own id z off len) (.sl true z l):=by
 have e:Ab.bor H (.own id z off len)= .sl true z l:=by simp [Ab.bor,l9,h]
 have:=Vw.bor (H:=H) (a:=.own id z off len) (by rw [e];rfl)
 rwa [e] at this
theorem Vw.aD {aM t:Bool} {z:Nat}:Vw aM H .aD (.sl t z []):=fun G E v hm hv=>by
 rw [hv.fS]
 exact .sl0
theorem Vw.sub {t:Bool} {z:Nat} {l:List AV}:Vw true H (.sl t z l) (.sl true z l):=fun G E v hm hv=>by
 rcases hv.pM with ⟨A,c,rfl,rfl⟩|⟨b,o,c,u,rfl,hlen,hS,hel,hc,hv⟩
 · exact .sl0
 · refine .sl u rfl hlen (.inl ?_) hel hc fun k y hk=>xZ (hv k y hk) ?_ (fun b h=>.inl h) (fun _ _ _ _ h=>h)
   · cases t
     · exact hm.sub _ hS
     · exact hS
   · obtain ⟨a,ha,hy⟩:=List.mem_flatMap.1 (List.mem_of_getElem? hk)
     have:=hel a ha
     simp only [AV.el,Bool.and_eq_true,List.all_eq_true] at this
     exact this.2 y hy
inductive Vws (aM:Bool) (H:List AO):List AV->List AV->Prop where
 | nil:Vws aM H [] []
 | cons {a a':AV} {l l':List AV} (h:Vw aM H a a') (t:Vws aM H l l'):Vws aM H (a :: l) (a' :: l')
theorem Vws.len {aM:Bool} {l l':List AV} (h:Vws aM H l l'):l.length=l'.length:=by
 induction h with
 | nil=>rfl
 | cons _ _ ih=>simp [ih]
theorem Vws.get {aM:Bool} {l l':List AV} (h:Vws aM H l l'):∀ (k:Nat) (q:AV),l'[k]?=some q->∃ a,l[k]?=some a/\Vw aM H a q:=by
 induction h with
 | nil=>intro k q hq;simp at hq
 | cons h1 _ ih =>
   intro k q hq
   cases k with
   | zero=>simp at hq;subst hq;exact ⟨_,rfl,h1⟩
   | succ k=>simpa using ih k q (by simpa using hq)
theorem Vws.refl {aM:Bool}:∀ {l:List AV},l.all AV.low=true->Vws aM H l l
 | [],_=>.nil
 | a :: l,h=>by
   simp only [List.all_cons,Bool.and_eq_true] at h
   exact .cons (.refl h.1) (Vws.refl h.2)
theorem aI.of {aM:Bool} {f:FuncId} {args args':List AV} {y:AV} (h:aT P f args' y) (ha:Vws aM H args args') (hy:y.low=true) (hl:aM=true->y.aM=false):aI P f args H y:=by
 intro G
 refine ⟨h.1,fun E vs hm hlen hv=>?_⟩
 have h0:HM (E.sub aM) []:=by cases aM;exact aBu hm;exact aBH hm
 have h1:(E.sub aM).w=E.w:=by cases aM<;>rfl
 have h2:∀ b,¬ (E.sub aM).O b:=by cases aM<;>exact fun _ h=>h
 have key:=h.2 (E.sub aM) vs h0 (by rw [hlen,ha.len]) fun k q hq=>by
  obtain ⟨a,hk,hv'⟩:=ha.get k q hq
  exact hv' G E _ hm (hv k a hk)
 rw [h1] at key
 refine key.mono fun e w' ⟨v,y',H',E',h3,h4,h5,h6,h7,h8⟩=>?_
 subst h8
 obtain ⟨b1,b2⟩:=aEK hm h1 h2 h6 h7
 refine ⟨v,y',H++G,E.back E',h3,h4,aEJ h1 h2 h7 h5 hy (fun t b ht hs=>?_),b1,b2,rfl,rfl⟩
 cases aM with
 | false=>exact hs
 | true=>exact hs.elim id fun hs=>absurd (ht hs.1) (by rw [hl rfl];simp)
theorem aW.ofF {f:FuncId} {args:List AV} {y:AV} {K:AV->List AO->Prop} (h:aI P f args H y) (hk:K y H):aW P f args H K:=by
 have:=h []
 rw [List.append_nil] at this
 exact this.mono fun a b ⟨h1,h2⟩=>by subst h1 h2;exact hk
end borrow
theorem AV.nG {n:Nat}:∀ {l:List AV},(∀ (k:Nat) (y:AV),l[k]?=some y->AV.bel n y=true)->AV.nM n l=true
 | [],_=>rfl
 | a :: l,h=>by
   simp only [AV.nM,Bool.and_eq_true]
   exact ⟨h 0 a rfl,AV.nG fun k y hk=>h (k+1) y (by simpa using hk)⟩
section ren
variable {w:World} {S S':Bool->Nat->Prop} {μ μ':Nat->Option Loc} {n n' m:Nat} {ρ:Nat->Nat}
theorem VR.aN1 {x:Value} {y':AV} (h:VR w S μ n x y') (hS:∀ t b,S t b->S' t b):∀ y:AV,y'=y.ren ρ->y.bel m=true->(∀ id,id<m->μ' id=μ (ρ id))->VR w S' μ' m x y:=by
 induction h with
 | int=>intro y e hb hμ;cases y<;>simp [AV.ren] at e;obtain ⟨rfl,rfl⟩:=e;exact .int
 | bool=>intro y e hb hμ;cases y<;>simp [AV.ren] at e;subst e;exact .bool
 | str h=>intro y e hb hμ;cases y<;>simp [AV.ren] at e;subst e;exact .str h
 | nilp=>intro y e hb hμ;cases y<;>simp [AV.ren] at e;exact .nilp
 | aD=>intro y e hb hμ;cases y<;>simp [AV.ren] at e;exact .aD
 | nilf=>intro y e hb hμ;cases y<;>simp [AV.ren] at e;exact .nilf
 | nili=>intro y e hb hμ;cases y<;>simp [AV.ren] at e;exact .nili
 | cD=>intro y e hb hμ;cases y<;>simp [AV.ren] at e;exact .cD
 | sl0=>intro y e hb hμ;cases y<;>simp [AV.ren] at e;obtain ⟨rfl,rfl,rfl⟩:=e;exact .sl0
 | sl u hm hlen hS1 hel hc1 _ ih =>
   intro y e hb hμ
   cases y<;>simp [AV.ren] at e
   obtain ⟨rfl,rfl,rfl⟩:=e
   refine .sl u hm hlen (hS _ _ hS1) hel hc1 fun k y hk=>?_
   have hok:=mN hel hk
   exact ih k y hk y (AV.pT hok).symm (AV.lQ hok) hμ
 | own0 h he=>intro y e hb hμ;cases y<;>simp [AV.ren] at e;obtain ⟨rfl,rfl,rfl,rfl⟩:=e;simp only [AV.bel,decide_eq_true_eq] at hb;exact .own0 hb fun L hL=>he L ((hμ _ hb).symm.trans hL)
 | own h hL hz hlen hcap=>intro y e hb hμ;cases y<;>simp [AV.ren] at e;obtain ⟨rfl,rfl,rfl,rfl⟩:=e;simp only [AV.bel,decide_eq_true_eq] at hb;exact .own hb ((hμ _ hb).trans hL) hz hlen hcap
 | ownx0 h he=>intro y e hb hμ;cases y<;>simp [AV.ren] at e;obtain ⟨rfl,rfl,rfl,rfl,rfl⟩:=e;simp only [AV.bel,decide_eq_true_eq] at hb;exact .ownx0 hb fun L hL=>he L ((hμ _ hb).symm.trans hL)
 | ownx h hL hz hlen hcap=>intro y e hb hμ;cases y<;>simp [AV.ren] at e;obtain ⟨rfl,rfl,rfl,rfl,rfl⟩:=e;simp only [AV.bel,decide_eq_true_eq] at hb;exact .ownx hb ((hμ _ hb).trans hL) hz hlen hcap
 | ref h hL=>intro y e hb hμ;cases y<;>simp [AV.ren] at e;obtain ⟨rfl,rfl,rfl⟩:=e;simp only [AV.bel,decide_eq_true_eq] at hb;exact .ref hb ((hμ _ hb).trans hL)
 | ip u hS1 hok hc1 _ ih =>
   intro y e hb hμ
   cases y<;>simp [AV.ren] at e
   obtain ⟨rfl,rfl⟩:=e
   refine .ip u (hS _ _ hS1) hok hc1 fun k y hk=>?_
   have hy:=hok y (List.mem_of_getElem? hk)
   exact ih k y hk y (AV.pT hy).symm (AV.lQ hy) hμ
 | agg hl h1 _ ih =>
   intro y e hb hμ
   cases y<;>simp [AV.ren] at e
   rename_i cs'
   subst e
   simp only [AV.bel] at hb
   refine .agg (by rw [AV.eW] at hl;exact hl) (fun a ha=>?_) (fun k y hk=>ih k (y.ren ρ) (by rw [AV.dI,hk];rfl) y rfl (AV.dE hb hk) hμ)
   obtain ⟨k,hk⟩:=List.mem_iff_getElem?.1 ha
   rw [<- AV.rL (ρ:=ρ)]
   exact h1 _ (List.mem_of_getElem? (i:=k) (by rw [AV.dI,hk];rfl))
 | tup hl _ ih =>
   intro y e hb hμ
   cases y<;>simp [AV.ren] at e
   subst e
   simp only [AV.bel] at hb
   exact .tup (by rw [AV.eW] at hl;exact hl) (fun k y hk=>ih k (y.ren ρ) (by rw [AV.dI,hk];rfl) y rfl (AV.dE hb hk) hμ)
 | fn hl hk _ _ ih1 ih2 =>
   intro y e hb hμ
   cases y<;>simp [AV.ren] at e
   obtain ⟨rfl,rfl,rfl⟩:=e
   simp only [AV.bel,Bool.and_eq_true] at hb
   exact .fn (by rw [AV.eW] at hl;exact hl) (by rw [AV.eW] at hk;exact hk) (fun k y hk=>ih1 k (y.ren ρ) (by rw [AV.dI,hk];rfl) y rfl (AV.dE hb.1 hk) hμ)
    (fun k y hk=>ih2 k (y.ren ρ) (by rw [AV.dI,hk];rfl) y rfl (AV.dE hb.2 hk) hμ)
 | ifc _ ih =>
   intro y e hb hμ
   cases y<;>simp [AV.ren] at e
   obtain ⟨rfl,rfl⟩:=e
   simp only [AV.bel] at hb
   exact .ifc (ih _ rfl hb hμ)
 | any h=>intro y e hb hμ;cases y<;>simp [AV.ren] at e;exact .any h
 | top=>intro y e hb hμ;cases y<;>simp [AV.ren] at e;exact .top
end ren
section cut
variable {w:World} {S:Bool->Nat->Prop} {μ:Nat->Option Loc} {n k:Nat} {x:Value} {y:AV}
theorem VR.bel (h:VR w S μ n x y):y.bel n=true:=by
 induction h with
 | own0 h=>simpa [AV.bel] using h
 | own h=>simpa [AV.bel] using h
 | ref h=>simpa [AV.bel] using h
 | ownx0 h=>simpa [AV.bel] using h
 | ownx h=>simpa [AV.bel] using h
 | agg hl h1 _ ih=>simp only [AV.bel];exact AV.nG ih
 | tup hl _ ih=>simp only [AV.bel];exact AV.nG ih
 | fn hl hk _ _ ih1 ih2=>simp only [AV.bel,Bool.and_eq_true];exact ⟨AV.nG ih1,AV.nG ih2⟩
 | ifc _ ih=>simpa only [AV.bel] using ih
 | _=>rfl
theorem VR.cut (h:VR w S μ n x y):y.bel k=true->VR w S μ k x y:=by
 intro hb
 induction h with
 | int=>exact .int
 | bool=>exact .bool
 | str h=>exact .str h
 | nilp=>exact .nilp
 | aD=>exact .aD
 | nilf=>exact .nilf
 | nili=>exact .nili
 | cD=>exact .cD
 | sl0=>exact .sl0
 | sl u hm hlen hS1 hel hc1 _ ih=>exact .sl u hm hlen hS1 hel hc1 fun j y hj=>ih j y hj (AV.lQ (mN hel hj))
 | own0 h he=>simp only [AV.bel,decide_eq_true_eq] at hb;exact .own0 hb he
 | own h hL hz hlen hcap=>simp only [AV.bel,decide_eq_true_eq] at hb;exact .own hb hL hz hlen hcap
 | ownx0 h he=>simp only [AV.bel,decide_eq_true_eq] at hb;exact .ownx0 hb he
 | ownx h hL hz hlen hcap=>simp only [AV.bel,decide_eq_true_eq] at hb;exact .ownx hb hL hz hlen hcap
 | ref h hL=>simp only [AV.bel,decide_eq_true_eq] at hb;exact .ref hb hL
 | ip u hS1 hok hc1 _ ih=>exact .ip u hS1 hok hc1 fun j y hj=>ih j y hj (AV.lQ (hok y (List.mem_of_getElem? hj)))
 | agg hl h1 _ ih=>simp only [AV.bel] at hb;exact .agg hl h1 fun j y hj=>ih j y hj (AV.dE hb hj)
 | tup hl _ ih=>simp only [AV.bel] at hb;exact .tup hl fun j y hj=>ih j y hj (AV.dE hb hj)
 | fn hl hk _ _ ih1 ih2=>simp only [AV.bel,Bool.and_eq_true] at hb;exact .fn hl hk (fun j y hj=>ih1 j y hj (AV.dE hb.1 hj)) (fun j y hj=>ih2 j y hj (AV.dE hb.2 hj))
 | ifc _ ih=>simp only [AV.bel] at hb;exact .ifc (ih hb)
 | any h=>exact .any h
 | top=>exact .top
end cut
theorem aFA {E:Env} {n id:Nat} {o:AO} (h:E.holds n id o):o.bel n=true:=by
 cases o with
 | dead=>rfl
 | box cs =>
   obtain ⟨L,u,t,fz,h1,h2,h3,h4,h5,h6,h7,h8,h9⟩:=h
   exact AV.nG fun k y hk=>(h9 k y hk).bel
 | arr z l=>rfl
theorem aFz {E:Env} {n k id:Nat} {o:AO} (h:E.holds n id o) (hb:o.bel k=true):E.holds k id o:=by
 cases o with
 | dead=>trivial
 | box cs =>
   obtain ⟨L,u,t,fz,h1,h2,h3,h4,h5,h6,h7,h8,h9⟩:=h
   exact ⟨L,u,t,fz,h1,h2,h3,h4,h5,h6,h7,h8,fun j y hj=>(h9 j y hj).cut (AV.dE hb hj)⟩
 | arr z l =>
   rcases h with h|⟨L,u,t,fz,h1,h2,h3,h4,h5,h6,h7,h8,h9,h10⟩
   · exact .inl h
   · exact .inr ⟨L,u,t,fz,h1,h2,h3,h4,h5,h6,h7,h8,fun j y hj=>(h9 j y hj).cut (AV.lQ (mN h8 hj)),h10⟩
theorem aAJ {E:Env} {R G:List AO} (hm:HM E (R++G)) (hb:∀ o∈R,o.bel R.length=true):HM E R where
 obj:=fun id o ho=>aFz (hm.obj id o (by rw [List.getElem?_append_left (List.getElem?_eq_some_iff.1 ho).1];exact ho)) (hb o (List.mem_of_getElem? ho))
 inj:=fun i j oi oj Li Lj hij hi hj=>hm.inj i j oi oj Li Lj hij (by rw [List.getElem?_append_left (List.getElem?_eq_some_iff.1 hi).1];exact hi) (by rw [List.getElem?_append_left (List.getElem?_eq_some_iff.1 hj).1];exact hj)
 disj:=hm.disj
 bound:=hm.bound
 sbound:=hm.sbound
 sub:=hm.sub
theorem aW.drop {P:Program} {f:FuncId} {args:List AV} {H:List AO} {Post Post':AV->List AO->Prop} (h:aW P f args H Post)
 (hd:∀ y Hr,Post y Hr->∃ R G,Hr=R++G/\H.length<=R.length/\y.bel R.length=true/\(∀ o∈R,o.bel R.length=true)/\Post' y R):aW P f args H Post' :=
 ⟨h.1,fun E vs hm hl hv=>(h.2 E vs hm hl hv).mono fun e w' ⟨v,y,H',E',h1,h2,h3,h4,h5,h6⟩=>by
   obtain ⟨R,G,rfl,hRl,hy,hR,hp⟩:=hd y H' h6
   exact ⟨v,y,R,E',h1,h2,h3.cut hy,aAJ h4 hR,{ h5 with num:=hRl },hp⟩⟩
def ext (ρ:List Nat) (n:Nat) (i:Nat):Nat:=if i<ρ.length then ρ.getD i 0 else n+(i-ρ.length)
theorem aIA {ρ:List Nat} {n i:Nat} (h:i<ρ.length):ext ρ n i=ρ.getD i 0:=if_pos h
theorem aIB {ρ:List Nat} {n i:Nat} (h:ρ.length<=i):ext ρ n i=n+(i-ρ.length):=if_neg (by omega)
def j8:List AO->List Nat->List AO->List AO
 | H,[],_=>H
 | H,_,[]=>H
 | H,i :: ρ,o :: l=>j8 (H.set i o) ρ l
theorem gZ:∀ (H:List AO) (ρ:List Nat) (l:List AO),(j8 H ρ l).length=H.length
 | H,[],l=>by cases l<;>rfl
 | H,_ :: _,[]=>rfl
 | H,i :: ρ,o :: l=>by simp [j8,gZ]
theorem pO:∀ (H:List AO) (ρ:List Nat) (l:List AO) (i:Nat),i∉ρ->(j8 H ρ l)[i]?=H[i]?
 | H,[],l,i,_=>by cases l<;>rfl
 | H,_ :: _,[],i,_=>rfl
 | H,j :: ρ,o :: l,i,h=>by
   simp only [List.mem_cons,not_or] at h
   rw [j8,pO _ ρ l i h.2,List.getElem?_set_ne (by omega)]
theorem sI:∀ (H:List AO) (ρ:List Nat) (l:List AO) (k i:Nat) (o:AO),ρ.Nodup->ρ[k]?=some i->l[k]?=some o->i<H.length->(j8 H ρ l)[i]?=some o
 | H,[],l,k,i,o,_,h,_,_=>by simp at h
 | H,_ :: _,[],k,i,o,_,_,h,_=>by simp at h
 | H,j :: ρ,q :: l,0,i,o,hnd,h1,h2,hi=>by
   simp only [List.getElem?_cons_zero,Option.some.injEq] at h1 h2
   subst h1 h2
   rw [j8,pO _ _ _ _ (List.nodup_cons.1 hnd).1,List.getElem?_set_self hi]
 | H,j :: ρ,q :: l,k+1,i,o,hnd,h1,h2,hi=>by
   rw [j8]
   exact sI _ ρ l k i o (List.nodup_cons.1 hnd).2 (by simpa using h1) (by simpa using h2) (by simpa using hi)
def spl (ρ:List Nat) (H Hr:List AO):List AO:=j8 H ρ ((Hr.take ρ.length).map (AO.ren (ext ρ H.length)))++(Hr.drop ρ.length).map (AO.ren (ext ρ H.length))
theorem aBs {ρ:List Nat} {H Hr:List AO} (h:ρ.length<=Hr.length):(spl ρ H Hr).length=H.length+(Hr.length-ρ.length):=by
 simp [spl,gZ]
theorem aKK {ρ:List Nat} {H Hr:List AO} {j:Nat} {o:AO} (hj:Hr[ρ.length+j]?=some o):(spl ρ H Hr)[H.length+j]?=some (o.ren (ext ρ H.length)):=by
 unfold spl
 rw [List.getElem?_append_right (by rw [gZ];omega),gZ]
 rw [show H.length+j-H.length=j by omega,List.getElem?_map,List.getElem?_drop,hj]
 rfl
theorem aKJ {ρ:List Nat} {H Hr:List AO} {i:Nat} (hi:i<H.length) (h:i∉ρ):(spl ρ H Hr)[i]?=H[i]?:=by
 unfold spl
 rw [List.getElem?_append_left (by rw [gZ];exact hi),pO _ _ _ _ h]
theorem aQk {ρ:List Nat} {H Hr:List AO} {k i:Nat} {o:AO} (hnd:ρ.Nodup) (hk:ρ[k]?=some i) (ho:Hr[k]?=some o) (hi:i<H.length):(spl ρ H Hr)[i]?=some (o.ren (ext ρ H.length)):=by
 have hkl:=(List.getElem?_eq_some_iff.1 hk).1
 unfold spl
 rw [List.getElem?_append_left (by rw [gZ];exact hi)]
 exact sI H ρ _ k i _ hnd hk (by rw [List.getElem?_map,List.getElem?_take_of_lt hkl,ho];rfl) hi
theorem uS {ρ:List Nat} {H Hr:List AO} {i:Nat} {o:AO} (hnd:ρ.Nodup) (hlt:∀ i∈ρ,i<H.length) (hl:ρ.length<=Hr.length) (h:(spl ρ H Hr)[i]?=some o) :
 (i<H.length/\i∉ρ/\H[i]?=some o)∨∃ k q,Hr[k]?=some q/\i=ext ρ H.length k/\o=q.ren (ext ρ H.length):=by
 by_cases hi:i<H.length
 · by_cases hm:i∈ρ
   · obtain ⟨k,hk⟩:=List.mem_iff_getElem?.1 hm
     have hkl:=(List.getElem?_eq_some_iff.1 hk).1
     have ho:Hr[k]?=some (Hr[k]'(by omega)):=List.getElem?_eq_getElem (by omega)
     rw [aQk hnd hk ho hi] at h
     cases h
     exact .inr ⟨k,_,ho,by rw [aIA hkl,List.getD_eq_getElem?_getD,hk];rfl,rfl⟩
   · rw [aKJ hi hm] at h
     exact .inl ⟨hi,hm,h⟩
 · have hlen:=(List.getElem?_eq_some_iff.1 h).1
   rw [aBs hl] at hlen
   have ho:Hr[ρ.length+(i-H.length)]?=some (Hr[ρ.length+(i-H.length)]'(by omega)):=List.getElem?_eq_getElem (by omega)
   have:=aKK (H:=H) ho
   rw [show H.length+(i-H.length)=i by omega] at this
   rw [this] at h
   cases h
   exact .inr ⟨_,_,ho,by rw [aIB (by omega)];omega,rfl⟩
section frame
variable {P:Program} {f:FuncId} {args:List AV} {Hc H:List AO} {Post:AV->List AO->Prop}
theorem dK.frame {PP:AV->List AO->Prop} (h:dK P f args Hc Post PP) (ρ:List Nat) (hlen:ρ.length=Hc.length) (hnd:ρ.Nodup) (hlt:∀ i∈ρ,i<H.length)
 (hH:∀ k o,Hc[k]?=some o->H[ρ.getD k 0]?=some (o.ren fun i=>ρ.getD i 0)/\o.bel Hc.length=true) (hb:AV.nM Hc.length args=true) :
 dK P f (AV.lG (fun i=>ρ.getD i 0) args) H (fun y' H'=>∃ y Hr,Post y Hr/\y'=y.ren (ext ρ H.length)/\H'=spl ρ H Hr) fun y' H'=>∃ y Hr,PP y Hr/\y'=y.ren (ext ρ H.length)/\H'=spl ρ H Hr:=by
 refine ⟨h.1,fun E vs hm hl hv=>?_⟩
 rw [AV.eW] at hl
 let O1:Nat->Prop:=fun b=>E.O b/\∃ k L o,k<Hc.length/\E.μ (ρ.getD k 0)=some L/\Hc[k]?=some o/\o.live=true/\L.b=b
 let E1:Env:=⟨E.w,E.S,fun k=>E.μ (ρ.getD k 0),O1⟩
 have hinj:∀ i j,i<Hc.length->j<Hc.length->ρ.getD i 0=ρ.getD j 0->i=j:=fun i j hi hj e=>by
  rw [List.getD_eq_getElem?_getD,List.getD_eq_getElem?_getD,List.getElem?_eq_getElem (by omega),List.getElem?_eq_getElem (by omega)] at e
  simp only [Option.getD_some] at e
  rcases Nat.lt_trichotomy i j with h|h|h
  · exact absurd e (List.pairwise_iff_getElem.1 hnd i j (by omega) (by omega) h)
  · exact h
  · exact absurd e.symm (List.pairwise_iff_getElem.1 hnd j i (by omega) (by omega) h)
 have hm1:HM E1 Hc:=by
  refine ⟨fun id o ho=>?_,fun i j oi oj Li Lj hij hi hj hli hlj hμi hμj=>?_,fun b hb tt hs=>hm.disj b hb.1 tt hs,fun b hb=>hm.bound b hb.1,hm.sbound,hm.sub⟩
  · obtain ⟨h1,h2⟩:=hH id o ho
    have hidl:=(List.getElem?_eq_some_iff.1 ho).1
    have hob:=hm.obj _ _ h1
    by_cases hlive:o.live=true
    ·
     have key:∀ x y,E.VR H.length x (y.ren fun i=>ρ.getD i 0)->y.bel Hc.length=true->E1.VR Hc.length x y:=fun x y hv hb=>VR.aN1 hv (fun _ _ h=>h) y rfl hb fun _ _=>rfl
     have hO:∀ L,E.μ (ρ.getD id 0)=some L->E.O L.b->O1 L.b:=fun L hL hO=>⟨hO,id,L,o,hidl,hL,ho,hlive,rfl⟩
     cases o with
     | dead=>trivial
     | box cs =>
       obtain ⟨L,u,t,fz,g1,g2,g3,g4,g5,g6,g7,g8,g9⟩:=hob
       rw [AV.eW] at g4
       refine ⟨L,u,t,fz,g1,hO L g1 g2,g3,g4,g5,g6,g7,fun a ha=>?_,fun k y hk=>key _ _ (g9 k _ (by rw [AV.dI,hk];rfl)) (AV.dE h2 hk)⟩
       obtain ⟨k,hk⟩:=List.mem_iff_getElem?.1 ha
       rw [<- AV.rL (ρ:=fun i=>ρ.getD i 0)]
       exact g8 _ (List.mem_of_getElem? (i:=k) (by rw [AV.dI,hk];rfl))
     | arr z l =>
       rcases hob with ⟨g1,g2⟩|⟨L,u,t,fz,g1,g2,g3,g4,g5,g6,g7,g8,g9,g10⟩
       · exact .inl ⟨g1,g2⟩
       · refine .inr ⟨L,u,t,fz,g1,hO L g1 g2,g3,g4,g5,g6,g7,g8,fun k y hk=>?_,g10⟩
         have hok:=mN g8 hk
         exact key _ _ (by rw [AV.pT hok];exact g9 k y hk) (AV.lQ hok)
    · cases o<;>simp [AO.live] at hlive
      trivial
  · refine hm.inj (ρ.getD i 0) (ρ.getD j 0) _ _ Li Lj (fun e=>hij (hinj i j (List.getElem?_eq_some_iff.1 hi).1 (List.getElem?_eq_some_iff.1 hj).1 e)) (hH i oi hi).1 (hH j oj hj).1 ?_ ?_ hμi hμj
    · rw [AO.oZ];exact hli
    · rw [AO.oZ];exact hlj
 have hv1:∀ k y,args[k]?=some y->E1.VR Hc.length (vs.getD k undef) y:=fun k y hk =>
  VR.aN1 (hv k _ (by rw [AV.dI,hk];rfl)) (fun _ _ h=>h) y rfl (AV.dE hb hk) fun _ _=>rfl
 have lift:∀ (w':World) (v:Value) (y:AV) (Hr:List AO) (E2:Env),E2.w=w'->E2.VR Hr.length v y->HM E2 Hr->Trans E1 Hc.length E2 Hr.length->∃ E3:Env,E3.w=w'/\E3.VR (spl ρ H Hr).length v (y.ren (ext ρ H.length))/\HM E3 (spl ρ H Hr)/\Trans E H.length E3 (spl ρ H Hr).length:=by
  intro w' v y Hr E2 h2 h3 h4 h5
  have hrl:ρ.length<=Hr.length:=by rw [hlen];exact h5.num
  let E3:Env:=⟨E2.w,fun t b=>E.S t b∨(E2.S t b/\(E.w.heap.size<=b∨O1 b)),fun i=>if i<H.length then E.μ i else E2.μ (ρ.length+(i-H.length)),fun b=>(E.O b/\¬ O1 b)∨E2.O b⟩
  have hS2:∀ t b,E2.S t b->E3.S t b:=fun t b hs=>by
   rcases h5.born t b hs with g|g|g
   · exact .inl g
   · exact .inr ⟨hs,.inr g⟩
   · exact .inr ⟨hs,.inl g⟩
  have hO2:∀ b,E2.O b->E3.O b:=fun b hb=>.inr hb
  have hkeep:∀ b,b<E.w.heap.size->¬ O1 b->E2.w.heap[b]?=E.w.heap[b]?:=fun b hb ho=>h5.keep b hb ho
  have hmu:∀ k,k<Hr.length->ext ρ H.length k<H.length+(Hr.length-ρ.length)/\E3.μ (ext ρ H.length k)=E2.μ k:=fun k hk=>by
   by_cases hkl:k<ρ.length
   · rw [aIA hkl]
     have hin:ρ.getD k 0<H.length:=hlt _ (by rw [List.getD_eq_getElem?_getD,List.getElem?_eq_getElem hkl];exact List.getElem_mem hkl)
     refine ⟨by omega,?_⟩
     show (if ρ.getD k 0<H.length then E.μ (ρ.getD k 0) else _)=_
     rw [if_pos hin]
     exact (h5.mu k (by omega)).symm
   · rw [aIB (by omega)]
     refine ⟨by omega,?_⟩
     show (if H.length+(k-ρ.length)<H.length then _ else E2.μ (ρ.length+(H.length+(k-ρ.length)-H.length)))=_
     rw [if_neg (by omega)]
     congr 1
     omega
  have hnl:(spl ρ H Hr).length=H.length+(Hr.length-ρ.length):=aBs hrl
  have vnew:∀ x y,E2.VR Hr.length x y->E3.VR (spl ρ H Hr).length x (y.ren (ext ρ H.length)):=fun x y hv=>by
   rw [hnl]
   exact VR.ren (m:=Hr.length) hv hS2 hv.bel fun id hid _=>hmu id hid
  have t3:Trans E H.length E3 (spl ρ H Hr).length:=by
   refine ⟨h5.os,h5.tape,h5.output,h5.size,fun b hb ho=>hkeep b hb fun g=>ho g.1,fun _ _ h=>.inl h,fun t b hs=>?_,fun b hb=>?_,fun id hi=>if_pos hi,by rw [hnl];omega⟩
   · rcases hs with g|⟨_,g|g⟩
     · exact .inl g
     · exact .inr (.inr g)
     · exact .inr (.inl g.1)
   · rcases hb with g|g
     · exact .inl g.1
     · rcases h5.owns b g with g|g
       · exact .inl g.1
       · exact .inr g
  have vold:∀ x y,E.VR H.length x y->E3.VR (spl ρ H Hr).length x y:=fun x y hv=>by
   refine VR.mono hv (fun _ _ h=>.inl h) (fun t b o v hs hc=>?_) (fun id hi=>if_pos hi) (by rw [hnl];omega)
   rw [cell_of_heap (hkeep b (hm.sbound t b hs) fun g=>hm.disj b g.1 t hs)]
   exact hc
  have apart:∀ i o L,i∉ρ->H[i]?=some o->o.live=true->E.μ i=some L->¬ O1 L.b:=fun i o L hi ho hl hL ⟨_,k,L',q,hk,hL',hq,hql,hbb⟩=>by
   have hin:ρ.getD k 0∈ρ:=by rw [List.getD_eq_getElem?_getD,List.getElem?_eq_getElem (by omega)];exact List.getElem_mem (by omega)
   exact hm.inj (ρ.getD k 0) i _ o L' L (fun e=>hi (e ▸ hin)) (hH k q hq).1 ho (by rw [AO.oZ];exact hql) hl hL' hL hbb
  have hm3:HM E3 (spl ρ H Hr):=by
   refine ⟨fun id o ho=>?_,fun i j oi oj Li Lj hij hi hj hli hlj hμi hμj=>?_,fun b hb tt hs=>?_,fun b hb=>?_,fun tt b hs=>?_,fun b hs=>?_⟩
   · rcases uS hnd hlt hrl ho with ⟨g1,g2,g3⟩|⟨k,q,g1,rfl,rfl⟩
     · by_cases hlive:o.live=true
       · exact Env.fI (hm.obj id o g3) (if_pos g1) (fun L hL hO=>.inl ⟨hO,apart id o L g2 g3 hlive hL⟩) (fun L hL hO=>hkeep _ (hm.bound _ hO) (apart id o L g2 g3 hlive hL)) vold
       · cases o<;>simp [AO.live] at hlive
         trivial
     · have hkl:=(List.getElem?_eq_some_iff.1 g1).1
       exact aFy (E:=E2) (m:=Hr.length) (h4.obj k q g1) (aFA (h4.obj k q g1)) rfl (hmu k hkl).2 (fun L _ hO=>hO2 _ hO) fun x y hv _=>vnew x y hv
   · have cls:∀ i oi Li,(spl ρ H Hr)[i]?=some oi->oi.live=true->E3.μ i=some Li->(i<H.length/\i∉ρ/\H[i]?=some oi/\E.μ i=some Li/\¬ O1 Li.b/\E.O Li.b)∨∃ k q,Hr[k]?=some q/\i=ext ρ H.length k/\q.live=true/\E2.μ k=some Li/\E2.O Li.b:=by
      intro i oi Li hi hli hμi
      rcases uS hnd hlt hrl hi with ⟨g1,g2,g3⟩|⟨k,q,g1,rfl,rfl⟩
      · have hL:E.μ i=some Li:=(if_pos g1:E3.μ i=E.μ i).symm.trans hμi
        exact .inl ⟨g1,g2,g3,hL,apart i oi Li g2 g3 hli hL,Env.iA (hm.obj i oi g3) Li hL hli⟩
      · rw [AO.oZ] at hli
        have hkl:=(List.getElem?_eq_some_iff.1 g1).1
        have hL:E2.μ k=some Li:=(hmu k hkl).2.symm.trans hμi
        exact .inr ⟨k,q,g1,rfl,hli,hL,Env.iA (h4.obj k q g1) Li hL hli⟩
     have mix:∀ b,E.O b->¬ O1 b->E2.O b->False:=fun b g1 g2 g3=>by
      rcases h5.owns b g3 with g|g
      · exact g2 g
      · have:=hm.bound b g1
        change E.w.heap.size<=b at g
        omega
     rcases cls i oi Li hi hli hμi with ⟨a1,a2,a3,a4,a5,a6⟩|⟨k,q,a1,rfl,a3,a4,a5⟩<;>rcases cls j oj Lj hj hlj hμj with ⟨b1,b2,b3,b4,b5,b6⟩|⟨k',q',b1,rfl,b3,b4,b5⟩
     · exact hm.inj i j oi oj Li Lj hij a3 b3 hli hlj a4 b4
     · exact fun e=>mix Li.b a6 a5 (e ▸ b5)
     · exact fun e=>mix Lj.b b6 b5 (e ▸ a5)
     · exact h4.inj k k' q q' Li Lj (fun e=>hij (by rw [e])) a1 b1 a3 b3 a4 b4
   · rcases hb with ⟨g1,g2⟩|g
     · rcases hs with s|⟨_,s|s⟩
       · exact hm.disj b g1 tt s
       · have:=hm.bound b g1;omega
       · exact g2 s
     · rcases hs with s|⟨s,_⟩
       · rcases h5.owns b g with g|g
         · exact hm.disj b g.1 tt s
         · have:=hm.sbound tt b s
           change E.w.heap.size<=b at g
           omega
       · exact h4.disj b g tt s
   · rcases hb with ⟨g1,_⟩|g
     · exact Nat.lt_of_lt_of_le (hm.bound b g1) h5.size
     · exact h4.bound b g
   · rcases hs with s|⟨s,_⟩
     · exact Nat.lt_of_lt_of_le (hm.sbound tt b s) h5.size
     · exact h4.sbound tt b s
   · rcases hs with s|⟨s,g⟩
     · exact .inl (hm.sub b s)
     · exact .inr ⟨h4.sub b s,g⟩
  exact ⟨E3,h2,vnew v y h3,hm3,t3⟩
 refine (h.2 E1 vs hm1 hl hv1).mono fun e w' q=>?_
 rcases q with ⟨v,y,Hr,E2,h1,h2,h3,h4,h5,h6⟩|⟨v,y,Hr,E2,h1,h2,h3,h4,h5,h6⟩
 · obtain ⟨E3,k1,k2,k3,k4⟩:=lift w' v y Hr E2 h2 h3 h4 h5
   exact .inl ⟨v,_,_,E3,h1,k1,k2,k3,k4,y,Hr,h6,rfl,rfl⟩
 · obtain ⟨E3,k1,k2,k3,k4⟩:=lift w' v y Hr E2 h2 h3 h4 h5
   exact .inr ⟨v,_,_,E3,h1,k1,k2,k3,k4,y,Hr,h6,rfl,rfl⟩
theorem aW.frame (h:aW P f args Hc Post) (ρ:List Nat) (hlen:ρ.length=Hc.length) (hnd:ρ.Nodup) (hlt:∀ i∈ρ,i<H.length)
 (hH:∀ k o,Hc[k]?=some o->H[ρ.getD k 0]?=some (o.ren fun i=>ρ.getD i 0)/\o.bel Hc.length=true) (hb:AV.nM Hc.length args=true) :
 aW P f (AV.lG (fun i=>ρ.getD i 0) args) H fun y' H'=>∃ y Hr,Post y Hr/\y'=y.ren (ext ρ H.length)/\H'=spl ρ H Hr :=
 (dK.frame (PP:=fun _ _=>False) (h.to fun _ _ h=>h) ρ hlen hnd hlt hH hb).never fun _ _ ⟨_,_,h,_⟩=>h
theorem dK.drop {PP Post' PP':AV->List AO->Prop} (h:dK P f args H Post PP)
 (hd:∀ y Hr,Post y Hr->∃ R G,Hr=R++G/\H.length<=R.length/\y.bel R.length=true/\(∀ o∈R,o.bel R.length=true)/\Post' y R)
 (hp:∀ y Hr,PP y Hr->∃ R G,Hr=R++G/\H.length<=R.length/\y.bel R.length=true/\(∀ o∈R,o.bel R.length=true)/\PP' y R):dK P f args H Post' PP' :=
 ⟨h.1,fun E vs hm hl hv=>(h.2 E vs hm hl hv).mono fun e w' q=>by
   rcases q with ⟨v,y,H',E',h1,h2,h3,h4,h5,h6⟩|⟨v,y,H',E',h1,h2,h3,h4,h5,h6⟩
   · obtain ⟨R,G,rfl,hRl,hy,hR,hq⟩:=hd y H' h6
     exact .inl ⟨v,y,R,E',h1,h2,h3.cut hy,aAJ h4 hR,{ h5 with num:=hRl },hq⟩
   · obtain ⟨R,G,rfl,hRl,hy,hR,hq⟩:=hp y H' h6
     exact .inr ⟨v,y,R,E',h1,h2,h3.cut hy,aAJ h4 hR,{ h5 with num:=hRl },hq⟩⟩
end frame
end Go.Ab
