/- A part of a proof: what functions of the program compute. No condition. -/
import Derived.Test.YtakemdamegfcfaaGreatU37
import Derived.Test.YtakemdamegfcfaaGreatU39
import Derived.Test.YtakemdamegfcfaaGreatT13
import Derived.Test.YtakemdamegfcfaaGreatT33
set_option linter.unusedSimpArgs false
set_option linter.unusedVariables false
set_option maxRecDepth 20000
namespace Go.Proofs.YtakemdamegfcfaaGreat
open Go Go.Ab
def a2E (p:Int) (m:List App):Nat:=m.findIdx fun x=> !decide (x.id<p)
def a1Q (a:App) (l:List App):List App:=let i:=uK (idA a.id) l;if 0<=i then l.set i.toNat a else a2k (a2E a.id l) a l
theorem a2D {p:Int} {m:List App} {i:Nat} (hi:i<=m.length) (hn:∀ j,(h:j<i)->(h2:j<m.length)->m[j].id<p) (hor:i=m.length∨∃ h:i<m.length,¬ m[i].id<p):a2E p m=i:=by
 unfold a2E
 rcases hor with rfl|⟨h,hp⟩
 · apply List.findIdx_eq_length.2
   intro x hx
   obtain ⟨j,hj,rfl⟩:=List.getElem_of_mem hx
   simp [hn j hj hj]
 · rw [List.findIdx_eq h]
   exact ⟨by simp [hp],fun j hj=>by simp [hn j hj (by omega)]⟩
def afC (s:Sta) (i k m:Nat) (A:AV):List AV:=[.sl false 1 (s.labels.map .str),.own i 3 0 s.qs.length,.sl false 8 (s.nodes.map bO),A,.own k 9 0 s.conts.length,.own m 3 0 s.slots.length,.sl false 6 (s.plans.map eD),.int .i64 s.now,.int .i64 s.ep,.int .i64 s.sq]
theorem a5K {H:List AO} {s:Sta} {i j k m:Nat} (h1:H[i]?=some (.arr 3 (s.qs.map QUE))) (h2:H[j]?=some (.arr 14 (s.apps.map APP))) (h3:H[k]?=some (.arr 9 (s.conts.map bY))) (h4:H[m]?=some (.arr 3 (s.slots.map gW))) :
 Vw true H (.agg (owA s i j k m)) (.agg (stO s)):=by
 have e:bor H (.agg (owA s i j k m))= .agg (stO s):=by
  simp [bor,l9,owA,stO,rdS,h1,h2,h3,h4,List.take_of_length_le]
 have:=Vw.bor (H:=H) (a:=.agg (owA s i j k m)) (by rw [e];rfl)
 rwa [e] at this
def four (s:Sta):List AO:=[.arr 3 (s.qs.map QUE),.arr 9 (s.conts.map bY),.arr 3 (s.slots.map gW),.arr 14 (s.apps.map APP)]
set_option maxRecDepth 20000 in
set_option maxHeartbeats 16000000 in
theorem a2N (s:Sta) (hl:s.apps.length<=2^35) (a:App):aW Tryz.prog 79 [.agg (owA s 0 3 1 2),APP a] (four s) fun y G=>∃ A,(A= .sl false 14 ((a1Q a s.apps).map APP)∨(A= .own 3 14 0 (a1Q a s.apps).length))/\y= .agg (afC s 0 1 2 A)/\∃ o G',G= .arr 3 (s.qs.map QUE) :: .arr 9 (s.conts.map bY) :: .arr 3 (s.slots.map gW) :: o :: G'/\(A= .own 3 14 0 (a1Q a s.apps).length->o= .arr 14 ((a1Q a s.apps).map APP)):=by
 unfold four
 refine aGc a4U (by simp) rfl ?_
 obtain ⟨ls,qs,nodes,apps,conts,slots,plans,now,ep,sq⟩:=s
 simp only at hl ⊢
 have hb:=fun H h1 h2 h3 h4=>a5K (H:=H) (s:=⟨ls,qs,nodes,apps,conts,slots,plans,now,ep,sq⟩) (i:=0) (j:=3) (k:=1) (m:=2) h1 h2 h3 h4
 have ca:=a6d ⟨ls,qs,nodes,apps,conts,slots,plans,now,ep,sq⟩ a.id (by simp only;omega)
 unfold a5g
 unfold owA stO at *
 simp only at hb ca ⊢
 refine Wr ?_
 refine aE (aI.of (aM:=true) ca (.cons (hb _ rfl rfl rfl rfl) (.cons (Vw.refl rfl) .nil)) rfl (fun _=>rfl)) ?_
 unfold a1Q
 simp only
 rcases a1X (idA a.id) apps with ⟨h1,h2⟩|⟨i,hi,h1,h2,h3⟩
 · rw [h1]
   simp only [show ¬ (0:Int)<= -1 by omega,if_false]
   refine Wa ?_
   unfold a3r
   refine Wa ?_
   refine aF (σ:=Nat) (fun i=>⟨[(2,.ref 4 0 0),(3,.ref 5 0 0),(4,.ref 6 0 0),(6,.int .i64 (i:Int))],[.arr 3 (qs.map QUE),.arr 9 (conts.map bY),.arr 3 (slots.map gW),.arr 14 (apps.map APP),.box [.sl false 1 (ls.map .str),.own 0 3 0 qs.length,.sl false 8 (nodes.map bO),.own 3 14 0 apps.length,.own 1 9 0 conts.length,.own 2 3 0 slots.length,.sl false 6 (plans.map eD),.int .i64 now,.int .i64 ep,.int .i64 sq],.box (bI a),.box NL]⟩)
    (fun i=>i<=apps.length/\∀ j,(h:j<i)->(h2:j<apps.length)->apps[j].id<a.id) (fun i=>apps.length-i) 0 (.inl rfl) ⟨by omega,fun j h=>by omega⟩ ?_
   rintro i ⟨hii,hn⟩
   unfold a3q
   have fin:∀ K Kp,a2E a.id apps=i->(∀ o1 o2 G,K (.sl false 14 ((a2k (a2E a.id apps) a apps).map APP)) ([.arr 3 (qs.map QUE),.arr 9 (conts.map bY),.arr 3 (slots.map gW),o1,.box [.sl false 1 (ls.map .str),.own 0 3 0 qs.length,.sl false 8 (nodes.map bO),.own 3 14 0 apps.length,.own 1 9 0 conts.length,.own 2 3 0 slots.length,.sl false 6 (plans.map eD),.int .i64 now,.int .i64 ep,.int .i64 sq],.box (bI a),.box NL,o2]++G))->acK Tryz.prog 137 [.own 3 14 0 apps.length,.int .i64 (i:Int),.own 7 14 0 1] [.arr 3 (qs.map QUE),.arr 9 (conts.map bY),.arr 3 (slots.map gW),.arr 14 (apps.map APP),.box [.sl false 1 (ls.map .str),.own 0 3 0 qs.length,.sl false 8 (nodes.map bO),.own 3 14 0 apps.length,.own 1 9 0 conts.length,.own 2 3 0 slots.length,.sl false 6 (plans.map eD),.int .i64 now,.int .i64 ep,.int .i64 sq],.box (bI a),.box NL,.arr 14 [APP a]] K Kp:=by
    intro K Kp hi hk
    have hc:=a3T apps [] a i (by omega) (by simp;omega)
    rw [List.append_nil] at hc
    refine (hc.len.fr [3,7]).to ?_
    rintro y G ⟨y0,Hr,⟨rfl,hHr⟩,rfl,rfl⟩
    match Hr,hHr with
    | o1 :: o2 :: G,_ =>
    have:=hk (o1.ren (ext [3,7] 8)) (o2.ren (ext [3,7] 8)) (G.map (AO.ren (ext [3,7] 8)))
    rw [hi] at this
    exact this
   by_cases hil:i<apps.length
   · have hg:apps.getD i default=apps[i]:=by simp [hil]
     by_cases hb:apps[i].id<a.id
     · simp -implicitDefEqProofs(disch:=first|decide|omega)only[↓aA,aC,aB,simprocAttr,x8,a9,hg]
       repeat (refine And.intro (by omega) ?_)
       refine ⟨i+1,.inl rfl,⟨by omega,fun j h h2=>?_⟩,by omega⟩
       by_cases hj:j=i
       · subst hj;exact hb
       · exact hn j (by omega) h2
     · have hi:=a2D (i:=i) (by omega) hn (.inr ⟨hil,hb⟩)
       simp -implicitDefEqProofs(disch:=first|decide|omega)only[↓aA,aC,aB,simprocAttr,x8,a9,hg,List.append_nil]
       repeat (refine And.intro (by omega) ?_)
       refine fin _ _ hi fun o1 o2 G=>?_
       simp -implicitDefEqProofs(disch:=first|decide|omega)only[↓aA,aC,aB,simprocAttr,x8,List.cons_append,List.nil_append]
       exact ⟨by decide,_,.inl rfl,rfl,_,_,rfl,fun h=>by cases h⟩
   · have:i=apps.length:=by omega
     subst this
     have hi:=a2D (i:=apps.length) (by omega) hn (.inl rfl)
     simp -implicitDefEqProofs(disch:=first|decide|omega)only[↓aA,aC,aB,simprocAttr,x8,a9,List.append_nil]
     repeat (refine And.intro (by omega) ?_)
     refine fin _ _ hi fun o1 o2 G=>?_
     simp -implicitDefEqProofs(disch:=first|decide|omega)only[↓aA,aC,aB,simprocAttr,x8,List.cons_append,List.nil_append]
     exact ⟨by decide,_,.inl rfl,rfl,_,_,rfl,fun h=>by cases h⟩
 · rw [h1]
   simp only [show (0:Int)<=(i:Int) by omega,if_true,Int.toNat_natCast]
   have hg:apps.getD i default=apps[i]:=by simp [hi]
   simp -implicitDefEqProofs(disch:=first|decide|omega)only[↓aA,aC,aB,simprocAttr,x8,a9,hg,List.append_nil]
   refine ⟨by omega,by omega,by omega,_,.inr rfl,?_,_,_,rfl,fun _=>rfl⟩
   simp [afC]
theorem a5L (a b c:Int) (h:b<=a/\a<=c):aT Tryz.prog 71 [.int .i64 a,.int .i64 b,.int .i64 c] (.bool true):=by
 unfold aT
 refine aK a5D (by simp) ?_
 unfold a5n
 exact Ta
def a3m (k:Nat) (l:List App):List App:=l.take k++l.drop (k+1)
def a4S (l:List App):List App:=let k:=uK (fun a=> !live a) l;if 16<=l.length/\0<=k then a3m k.toNat l else l
def ZAP:AV:=.agg [.int .i64 0,.int .i64 0,.str [],.int .i64 0,.int .i64 0,.int .i64 0,.int .i64 0,.aD,.int .i64 0,.int .i64 0,.aD,.aD,.aD,.aD]
theorem a23 {E:Env} {H:List AO} {id z:Nat} {l zs:List AV} (hm:HM E H) (h:H[id]?=some (.arr z (l++zs))):HM E (H.set id (.arr z l)):=by
 have hid:=(List.getElem?_eq_some_iff.1 h).1
 have ho:=hm.obj id _ h
 have get:∀ k ok,(H.set id (.arr z l))[k]?=some ok->(k=id/\ok= .arr z l)∨(k≠id/\H[k]?=some ok):=fun k ok hk=>by
  by_cases e:k=id
  · subst e
    rw [List.getElem?_set_self hid] at hk
    cases hk
    exact .inl ⟨rfl,rfl⟩
  · rw [List.getElem?_set_ne (by omega)] at hk
    exact .inr ⟨e,hk⟩
 refine ⟨fun k ok hk=>?_,fun i j oi oj Li Lj hij hi hj hli hlj hμi hμj=>?_,hm.disj,hm.bound,hm.sbound,hm.sub⟩
 · rw [List.length_set]
   rcases get k ok hk with ⟨rfl,rfl⟩|⟨e,hk⟩
   · rcases ho with ⟨h1,h2⟩|⟨L,u,t,fz,h1,h2,h3,h4,h5,h6,h7,h8,h9,h10,h11⟩
     · exact .inl ⟨h1,(List.append_eq_nil_iff.1 h2).1⟩
     · have hle:l.length*z<=(l++zs).length*z:=Nat.mul_le_mul_right _ (by simp)
       refine .inr ⟨L,u,t,fz,h1,h2,h3,by omega,h5,h6,h7,fun a ha=>h8 a (List.mem_append_left _ ha),fun q y hq=>h9 q y ?_,fun q hq1 hq2=>aNM h8 h9 h10 q (by omega) hq2,h11⟩
       rw [iN,List.getElem?_append_left (List.getElem?_eq_some_iff.1 hq).1]
       exact hq
   · exact hm.obj k ok hk
 · rcases get i oi hi with ⟨rfl,rfl⟩|⟨e,hi2⟩<;>rcases get j oj hj with ⟨rfl,rfl⟩|⟨e',hj2⟩
   · exact absurd rfl hij
   · exact hm.inj i j _ oj Li Lj hij h hj2 rfl hlj hμi hμj
   · exact hm.inj i j oi _ Li Lj hij hi2 h hli rfl hμi hμj
   · exact hm.inj i j oi oj Li Lj hij hi2 hj2 hli hlj hμi hμj
theorem _root_.Go.Ab.aW.a5J {P:Program} {f:FuncId} {args:List AV} {H:List AO} {y0:AV} {z:Nat} {l:List AV} (h:aW P f args H fun y G=>y=y0/\∃ zs,G=[.arr z (l++zs)]):aW P f args H fun y G=>y=y0/\G=[.arr z l]:=by
 refine ⟨h.1,fun E vs hm hl hv=>(h.2 E vs hm hl hv).mono fun e w' ⟨v,y,H',E',h1,h2,h3,h4,h5,h6,zs,h7⟩=>?_⟩
 subst h7
 have:=a23 (id:=0) h4 rfl
 exact ⟨v,y,[.arr z l],E',h1,h2,h3,this,h5,h6,rfl⟩
set_option maxHeartbeats 1000000 in
theorem a3V (l:List App) (i j:Nat) (hij:i<=j) (hj:j<=l.length) (hl:l.length<=2^36):aW Tryz.prog 77 [.own 0 14 0 l.length,.int .i64 i,.int .i64 j] [.arr 14 (l.map APP)] fun y G=>y= .own 0 14 0 (i+(l.length-j))/\∃ zs:List AV,G=[.arr 14 ((l.take i++l.drop j).map APP++zs)]:=by
 refine zL a5y (by simp) rfl ?_
 unfold a5i
 by_cases he:i=j
 · subst he
   simp -implicitDefEqProofs(disch:=first|decide|omega)only[↓aA,aC,aB,simprocAttr,x8,kZ]
   refine ⟨by omega,by omega,hj,by omega,by congr 1;omega,[],?_⟩
   rw [List.append_nil,List.take_append_drop]
 · have hne:¬ ((i:Int)=(j:Int)):=by omega
   have hjc:j+(l.length-j)<=l.length:=by omega
   have htk:(l.drop j).take (l.length-j)=l.drop j:=List.take_of_length_le (by simp)
   simp -implicitDefEqProofs(disch:=first|decide|omega)only[↓aA,aC,aB,simprocAttr,x8,kZ,Nat.sub_zero,hjc,htk]
   refine ⟨by omega,by omega,hj,by omega,hij,by omega,by omega,by omega,by omega,hj,by omega,by omega,by omega,by omega,by omega,by omega,List.replicate (j-i) ZAP,?_⟩
   have e1:(l.take i++l.drop j).length=i+(l.length-j):=by simp;omega
   have e2:(l.take i++l.drop j++l.drop (i+(l.length-j))).take (i+(l.length-j))=l.take i++l.drop j:=by
    rw [<- e1,List.take_left']
    rfl
   have e3:(l.take i++l.drop j++l.drop (i+(l.length-j))).drop (i+(l.length-j)+(l.length-(i+(l.length-j))))=[]:=List.drop_eq_nil_of_le (by simp;omega)
   have e4:l.length-(i+(l.length-j))=j-i:=by omega
   rw [e2,e3,e4,List.map_nil,List.append_nil,List.map_append]
   rfl
theorem a5I (l:List App) (k:Nat) (hk:k<l.length) (hl:l.length<=2^36):aW Tryz.prog 77 [.own 0 14 0 l.length,.int .i64 k,.int .i64 ((k:Int)+1)] [.arr 14 (l.map APP)] fun y G=>y= .own 0 14 0 (a3m k l).length/\G=[.arr 14 ((a3m k l).map APP)]:=by
 have h:=(a3V l k (k+1) (by omega) (by omega) hl).a5J
 have e:(a3m k l).length=k+(l.length-(k+1)):=by simp [a3m];omega
 rw [e]
 have e2:(((k+1:Nat)):Int)=(k:Int)+1:=by omega
 rw [e2] at h
 exact h
theorem _root_.Go.Ab.aW.a3Y {P:Program} {f:FuncId} {x a a':AV} {H:List AO} {Post:AV->List AO->Prop} (h:aW P f [x,a'] H Post) (hw:Wk3 a a'):aW P f [x,a] H Post :=
 ⟨h.1,fun E vs hm hl hv=>h.2 E vs hm hl fun k y hk=>by
   match k,hk with
   | 0,hk=>simp only [List.getElem?_cons_zero,Option.some.injEq] at hk;subst hk;exact hv 0 _ rfl
   | 1,hk=>simp only [List.getElem?_cons_succ,List.getElem?_cons_zero,Option.some.injEq] at hk;subst hk;exact hw.vr (hv 1 _ rfl)
   | k+2,hk=>simp at hk⟩
theorem a6c {H:List AO} {i n:Nat} {ls:List (List UInt8)} {qs:List Queue} (h:H[i]?=some (.arr 3 (qs.map QUE))) (hn:n=qs.length) :
 Vw true H (.agg [.sl false 1 (ls.map AV.str),.own i 3 0 n]) (CNF true ls qs):=by
 subst hn
 have e:bor H (.agg [.sl false 1 (ls.map AV.str),.own i 3 0 qs.length])=CNF true ls qs:=by
  simp [bor,l9,CNF,rdS,h,List.take_of_length_le]
 have:=Vw.bor (H:=H) (a:=.agg [.sl false 1 (ls.map AV.str),.own i 3 0 qs.length]) (by rw [e];rfl)
 rwa [e] at this
def a3Q (id:Int) (q:List UInt8) (us pr m c now:Int) (A:AV):AV:=.agg [.int .i64 id,.int .i64 1,.str q,.int .i64 us,.int .i64 pr,.int .i64 m,.int .i64 c,A,.int .i64 now,.int .i64 0,.aD,.aD,.aD,.aD]
def a21 (id:Int) (q:List UInt8) (us pr m c now:Int) (l:List Ask):App:=⟨id,1,q,us,pr,m,c,l,now,0,[],[],[],[]⟩
theorem wkP (id:Int) (q:List UInt8) (us pr m c now:Int):Wk3 (a3Q id q us pr m c now .aD) (APP (a21 id q us pr m c now [])):=by
 refine .inl (.inr ⟨_,_,rfl,rfl,?_⟩)
 simp [a21,bI,WkL,Wk1]
theorem wkN (id:Int) (q:List UInt8) (us pr m c now:Int) (l:List Ask):Wk3 (a3Q id q us pr m c now (.sl false 8 (l.map ASK))) (APP (a21 id q us pr m c now l)):=by
 refine .inl (.inr ⟨_,_,rfl,rfl,?_⟩)
 simp [a21,bI,WkL,Wk1]
set_option maxRecDepth 20000 in
set_option maxHeartbeats 16000000 in
theorem a4O (ls:List (List UInt8)) (qs:List Queue) (nodes:List Node) (apps:List App) (conts:List bD) (slots:List dY) (plans:List dR) (now ep sq:Int) (a:App) (x6:Int) (b73:Bool) (hl:apps.length<=2^35) (Post:AV->List AO->Prop)
 (hp:∀ G,Post (.tup [.agg (stC ⟨ls,qs,nodes,a1Q (hY a now) apps,conts,slots,plans,now,ep,sq⟩),.int .i64 0]) G) :
 aw Tryz.prog aWT (oN [.ce 4 41 10 true,.tm 5] Post) ⟨[(2,.ref 0 0 0),(3,.ref 1 0 0),(4,.ref 2 0 0),(6,.int .i64 x6),(73,.bool b73)],[.box (owA ⟨ls,qs,nodes,apps,conts,slots,plans,now,ep,sq⟩ 3 6 4 5),.box (bI a),.box NL,.arr 3 (qs.map QUE),.arr 9 (conts.map bY),.arr 3 (slots.map gW),.arr 14 (apps.map APP)]⟩:=by
 unfold aWT owA NL
 have c1:=a1T (a21 a.id a.queue a.user a.prio a.mem a.cores now [])
 have c2:=a2N ⟨ls,qs,nodes,apps,conts,slots,plans,now,ep,sq⟩ hl (hY a now)
 have w2:=wkN a.id a.queue a.user a.prio a.mem a.cores now [⟨0,0,a.mem,a.cores,1,-1,-1,0⟩]
 simp -implicitDefEqProofs(disch:=first|decide|omega)only[↓aA,aC,aB,simprocAttr,x8,a9,bB]
 refine aE (aI.of (aM:=false) c1 (.cons (Vw.wk (wkP a.id a.queue a.user a.prio a.mem a.cores now) rfl) .nil) rfl (by simp)) ?_
 refine Wa ?_
 have c3:=c2.a3Y (a:=a3Q a.id a.queue a.user a.prio a.mem a.cores now (.sl false 8 [ASK ⟨0,0,a.mem,a.cores,1,-1,-1,0⟩])) w2
 unfold four owA at c3
 simp only at c3
 refine (c3.fr [3,4,5,6]).to ?_
 rintro y G ⟨y0,Hr,⟨A,hA,rfl,o,G',rfl,ho⟩,rfl,rfl⟩
 rcases hA with rfl|rfl
 · simp -implicitDefEqProofs(disch:=first|decide|omega)only[↓aA,aC,aB,simprocAttr,x8,AV.ren,AV.lG,AO.ren,spl,j8,afC,ext]
   exact hp _
 · obtain rfl:=ho rfl
   simp -implicitDefEqProofs(disch:=first|decide|omega)only[↓aA,aC,aB,simprocAttr,x8,AV.ren,AV.lG,AO.ren,spl,j8,afC,ext]
   exact hp _
set_option maxRecDepth 20000 in
set_option maxHeartbeats 16000000 in
theorem a4p (ls:List (List UInt8)) (qs:List Queue) (nodes:List Node) (apps:List App) (conts:List bD) (slots:List dY) (plans:List dR) (now ep sq:Int) (a:App) (hl:apps.length<=2^35) (Post:AV->List AO->Prop)
 (hp:∀ G,Post (.tup [.agg (stC ⟨ls,qs,nodes,a1Q (hY a now) apps,conts,slots,plans,now,ep,sq⟩),.int .i64 0]) G) :
 aw Tryz.prog aWT (oN [.ce 4 41 10 true,.tm 5] Post) ⟨[(2,.ref 0 0 0),(3,.ref 1 0 0),(4,.ref 2 0 0)],[.box (owA ⟨ls,qs,nodes,apps,conts,slots,plans,now,ep,sq⟩ 3 6 4 5),.box (bI a),.box NL,.arr 3 (qs.map QUE),.arr 9 (conts.map bY),.arr 3 (slots.map gW),.arr 14 (apps.map APP)]⟩:=by
 unfold aWT owA NL
 have c1:=a1T (a21 a.id a.queue a.user a.prio a.mem a.cores now [])
 have c2:=a2N ⟨ls,qs,nodes,apps,conts,slots,plans,now,ep,sq⟩ hl (hY a now)
 have w2:=wkN a.id a.queue a.user a.prio a.mem a.cores now [⟨0,0,a.mem,a.cores,1,-1,-1,0⟩]
 simp -implicitDefEqProofs(disch:=first|decide|omega)only[↓aA,aC,aB,simprocAttr,x8,a9,bB]
 refine aE (aI.of (aM:=false) c1 (.cons (Vw.wk (wkP a.id a.queue a.user a.prio a.mem a.cores now) rfl) .nil) rfl (by simp)) ?_
 refine Wa ?_
 have c3:=c2.a3Y (a:=a3Q a.id a.queue a.user a.prio a.mem a.cores now (.sl false 8 [ASK ⟨0,0,a.mem,a.cores,1,-1,-1,0⟩])) w2
 unfold four owA at c3
 simp only at c3
 refine (c3.fr [3,4,5,6]).to ?_
 rintro y G ⟨y0,Hr,⟨A,hA,rfl,o,G',rfl,ho⟩,rfl,rfl⟩
 rcases hA with rfl|rfl
 · simp -implicitDefEqProofs(disch:=first|decide|omega)only[↓aA,aC,aB,simprocAttr,x8,AV.ren,AV.lG,AO.ren,spl,j8,afC,ext]
   exact hp _
 · obtain rfl:=ho rfl
   simp -implicitDefEqProofs(disch:=first|decide|omega)only[↓aA,aC,aB,simprocAttr,x8,AV.ren,AV.lG,AO.ren,spl,j8,afC,ext]
   exact hp _
theorem a6i (a b c:Int) (h:¬ (b<=a/\a<=c)):aT Tryz.prog 71 [.int .i64 a,.int .i64 b,.int .i64 c] (.bool false):=by
 unfold aT
 refine aK a5D (by simp) ?_
 unfold a5n
 by_cases h1:b<=a
 · have h2:¬ a<=c:=fun h2=>h ⟨h1,h2⟩
   simp -implicitDefEqProofs(disch:=first|decide|omega)only[↓aA,aC,aB,simprocAttr,x8,h1,h2]
 · simp -implicitDefEqProofs(disch:=first|decide|omega)only[↓aA,aC,aB,simprocAttr,x8,h1]
theorem put_eq {a:App} {l:List App} (hs:Srt App.id l):a1Q a l=eE App.id a l:=by
 unfold a1Q
 simp only
 rcases yU (idA a.id) l with ⟨h1,h2⟩|⟨i,hi,h1,h2,h3,h4⟩
 · rw [h1,if_neg (by omega)]
   obtain ⟨k,hke,hk,hn,hg⟩:∃ k,a2E a.id l=k/\∃ hk:k<=l.length,(∀ j,(hj:j<k)->(l[j]'(by omega)).id<a.id)/\∀ h:k<l.length,¬ l[k].id<a.id:=by
    refine ⟨l.findIdx fun x=> !decide (x.id<a.id),rfl,List.findIdx_le_length,fun j hj=>?_,fun h=>?_⟩
    · have:=List.not_of_lt_findIdx hj
      simpa using this
    · have:=List.findIdx_getElem (w:=h)
      simpa using this
   rw [hke]
   rw [lI (k:=k) hk hn hg]
   unfold a2k
   split
   · rename_i hh
     have:l[k].id≠a.id:=fun e=>by
      have:=List.find?_eq_none.1 h2 l[k] (List.getElem_mem hh)
      simp [idA,e] at this
     rw [if_neg this]
   · rw [List.drop_eq_nil_of_le (by omega)]
 · rw [h1,if_pos (by omega),Int.toNat_natCast]
   have e:l[i].id=a.id:=by simpa [idA] using h2
   have hn:∀ j,(hj:j<i)->(l[j]'(by omega)).id<a.id:=fun j hj=>by
    have:=List.pairwise_iff_getElem.1 hs j i (by omega) hi hj
    omega
   rw [lI (k:=i) (by omega) hn (fun _=>by omega),dif_pos hi,if_pos e,List.set_eq_take_append_cons_drop,if_pos hi]
theorem a6e:∀ (l:List App) (k:Nat) (hk:k<l.length),(∀ j,(hj:j<k)->live (l[j]'(by omega))=true)->live l[k]=false->cG l=a3m k l
 | [],k,hk,_,_=>by simp at hk
 | a :: l,0,hk,_,h=>by
   simp only [List.getElem_cons_zero] at h
   simp [cG,a3m,h]
 | a :: l,k+1,hk,hn,h=>by
   have h0:=hn 0 (by omega)
   simp only [List.getElem_cons_zero] at h0
   have:=a6e l k (by simpa using hk) (fun j hj=>by have:=hn (j+1) (by omega);simpa using this) (by simpa using h)
   unfold cG
   rw [if_pos h0,this]
   simp [a3m]
theorem a6g (l:List App):a4S l=if 16<=l.length then cG l else l:=by
 unfold a4S
 simp only
 by_cases h16:16<=l.length
 · rw [if_pos h16]
   rcases yU (fun a=> !live a) l with ⟨h1,h2⟩|⟨i,hi,h1,h2,h3,h4⟩
   · rw [h1,if_neg (by omega),tH]
     rw [List.any_eq_false]
     intro x hx
     have:=List.find?_eq_none.1 h2 x hx
     unfold iU
     exact this
   · rw [h1,if_pos ⟨h16,by omega⟩,Int.toNat_natCast]
     refine (a6e l i hi (fun j hj=>?_) ?_).symm
     · simpa using h4 j hj
     · simpa using h2
 · rw [if_neg h16,if_neg (fun h=>h16 h.1)]
theorem a6s {qs:List Queue} (hz:∀ q∈qs,q.path≠[]) (p:List UInt8):a3Z p qs=iM qs p:=by
 unfold a3Z iM
 cases h:qs.any (qP p)
 · have:fT p qs=none:=List.find?_eq_none.2 fun x hx=>by
    have:=List.any_eq_false.1 h x hx
    exact this
   rw [this]
   rfl
 · obtain ⟨q,hq,hp⟩:=List.any_eq_true.1 h
   have hp:q.path=p:=by simpa [qP] using hp
   have hne:p≠[]:=hp ▸ hz q hq
   have hf:(fT p qs).isSome=true:=by
    unfold fT
    rw [List.find?_isSome]
    exact ⟨q,hq,by simp [hp]⟩
   have e:hN p qs=eT p qs:=by
    unfold hN eT
    congr 1
    refine List.filter_congr fun x _=>?_
    unfold a4r wJ
    have h0:(p==[])=false:=by simpa using hne
    rw [h0,Bool.not_false,Bool.true_and]
    unfold dH
    split
    · simp only [Bool.false_and]
      exact (by simpa using fun e:[]=p=>hne e.symm:(([]:List UInt8)==p)=false).symm
    · simp
   rw [hf,e]
set_option maxHeartbeats 16000000 in
theorem a6o (s:Sta) (hs:NOk s) (hl30:s.apps.length<=2^30) (hS:Srt App.id s.apps) (hz:∀ q∈s.qs,q.path≠[]) (a:App):aT Tryz.prog 36 [.agg (stC s),APP a] (sH (pJ s a)):=by
 have ha36:=hl30
 have hq3:=hs.c0.q3
 have hqr:=hs.c0.qr
 have co:=a5v s hs
 have hb:=fun H h1 h2 h3 h4=>a5K (H:=H) (s:=s) (i:=3) (j:=6) (k:=4) (m:=5) h1 h2 h3 h4
 have ca:=a6d s a.id (by omega)
 have cm:=a4Q true s.apps (by omega)
 have cl:=a4R true s.labels s.qs a.queue (by omega) hqr
 rw [a6s hz] at cl
 have cx:=a6b true s.apps (by omega)
 have hc:=fun H h=>a6c (H:=H) (i:=3) (ls:=s.labels) (qs:=s.qs) h rfl
 have bad:vX a->pJ s a=(s,1):=fun h=>if_pos h
 have good:¬ vX a->pJ s a=_:=fun h=>if_neg h
 have hput:∀ x,a1Q x (a4S s.apps)=eE App.id x (a4S s.apps):=fun x=>put_eq (by
  rw [a6g]
  split
  · exact List.Pairwise.sublist (lN _) hS
  · exact hS)
 have hroom:(lU s).apps=a4S s.apps:=by
  rw [a6g]
  unfold lU
  split<;>rfl
 have hrm:lU s={ s with apps:=a4S s.apps }:=by
  rw [a6g]
  unfold lU
  split<;>rfl
 unfold iJ at good
 rw [hroom,hrm] at good
 simp only [<- hput] at good
 obtain ⟨ls,qs,nodes,apps,conts,slots,plans,now,ep,sq⟩:=s
 simp only at ha36 hq3 hqr good hput
 unfold aT
 refine aO a6B (by simp) ?_
 unfold a6D sH
 unfold stO owA at *
 simp only at hb ca cm cl cx co hc ⊢
 refine Wh ?_
 refine nI co rfl rfl ?_
 rintro y G ⟨rfl,rfl⟩
 simp -implicitDefEqProofs(disch:=first|decide|omega)only[↓aA,aC,aB,simprocAttr,x8,AV.ren,AO.ren,up,AV.lG,bB,a9]
 by_cases c1:0<=a.id/\a.id<=9999
 case neg =>
  rw [bad (by unfold vX;omega)]
  refine aE (aI.of (aM:=false) (a6i a.id 0 9999 c1) (.refl rfl) rfl (by simp)) ?_
  exact Th
 refine aE (aI.of (aM:=false) (a5L a.id 0 9999 c1) (.refl rfl) rfl (by simp)) ?_
 refine Wh ?_
 by_cases c2:0<=a.user/\a.user<=99
 case neg =>
  rw [bad (by unfold vX;omega)]
  refine aE (aI.of (aM:=false) (a6i a.user 0 99 c2) (.refl rfl) rfl (by simp)) ?_
  exact Th
 refine aE (aI.of (aM:=false) (a5L a.user 0 99 c2) (.refl rfl) rfl (by simp)) ?_
 refine Wh ?_
 by_cases c3:0<=a.prio/\a.prio<=9
 case neg =>
  rw [bad (by unfold vX;omega)]
  refine aE (aI.of (aM:=false) (a6i a.prio 0 9 c3) (.refl rfl) rfl (by simp)) ?_
  exact Th
 refine aE (aI.of (aM:=false) (a5L a.prio 0 9 c3) (.refl rfl) rfl (by simp)) ?_
 refine Wh ?_
 by_cases c4:1<=a.mem/\a.mem<=1073741824
 case neg =>
  rw [bad (by unfold vX;omega)]
  refine aE (aI.of (aM:=false) (a6i a.mem 1 1073741824 c4) (.refl rfl) rfl (by simp)) ?_
  exact Th
 refine aE (aI.of (aM:=false) (a5L a.mem 1 1073741824 c4) (.refl rfl) rfl (by simp)) ?_
 refine Wh ?_
 by_cases c5:1<=a.cores/\a.cores<=1073741824
 case neg =>
  rw [bad (by unfold vX;omega)]
  refine aE (aI.of (aM:=false) (a6i a.cores 1 1073741824 c5) (.refl rfl) rfl (by simp)) ?_
  exact Th
 refine aE (aI.of (aM:=false) (a5L a.cores 1 1073741824 c5) (.refl rfl) rfl (by simp)) ?_
 refine Wh ?_
 have h7:=good (by unfold vX;omega)
 clear bad good
 refine aE (aI.of (aM:=true) ca (.cons (hb _ rfl rfl rfl rfl) (.cons (Vw.refl rfl) .nil)) rfl (fun _=>rfl)) ?_
 rcases yU (idA a.id) apps with ⟨h1,h2⟩|⟨i,hi,h1,h2,h3,h4⟩
 · have hfn:dP a.id apps=none:=h2
   rw [hfn] at h7
   rw [Option.isSome_none,if_neg (by simp),show (apps.filter live).length=a1S apps from rfl] at h7
   rw [h1]
   refine Wh ?_
   refine aE (aI.of (aM:=true) cm (.cons (Vw.sU rfl) .nil) rfl (fun _=>rfl)) ?_
   by_cases h16:16<=a1S apps
   · rw [if_pos h16] at h7
     rw [h7]
     exact Th
   · rw [if_neg h16] at h7
     refine Wh ?_
     refine aE (aI.of (aM:=true) cl (.cons (hc _ rfl) (.cons (Vw.refl rfl) .nil)) rfl (fun _=>rfl)) ?_
     cases hlf:iM qs a.queue with
     | false =>
       rw [hlf,if_neg (by simp)] at h7
       rw [h7]
       simp -implicitDefEqProofs(disch:=first|decide|omega)only[↓aA,aC,aB,simprocAttr,x8,bB,a9]
     | true =>
       rw [hlf,if_pos rfl] at h7
       rw [h7]
       simp -implicitDefEqProofs(disch:=first|decide|omega)only[↓aA,aC,aB,simprocAttr,x8,Bool.not_true,bB]
       refine aE (aI.of (aM:=true) cx (.cons (Vw.sU rfl) (.cons (Vw.refl rfl) .nil)) rfl (fun _=>rfl)) ?_
       unfold a4S
       simp only
       rcases yU (fun x=> !live x) apps with ⟨k1,k2⟩|⟨k,hk,k1,k2,k3,k4⟩
       · rw [k1,if_neg (by omega)]
         have rest:=fun x6 b73 apps0 h=>a4O ls qs nodes apps0 conts slots plans now ep sq a x6 b73 h (fun y x=>y=AV.tup [.agg (stC ⟨ls,qs,nodes,a1Q (hY a now) apps0,conts,slots,plans,now,ep,sq⟩),.int .i64 0]) fun G=>rfl
         unfold owA NL stC at rest
         simp only at rest
         by_cases h16l:16<=apps.length
         · simp -implicitDefEqProofs(disch:=first|decide|omega)only[↓aA,aC,aB,simprocAttr,x8,bB]
           exact rest _ _ apps (by omega)
         · simp -implicitDefEqProofs(disch:=first|decide|omega)only[↓aA,aC,aB,simprocAttr,x8,bB]
           exact rest _ _ apps (by omega)
       · rw [k1]
         have rest:=fun x6 b73 apps0 h=>a4O ls qs nodes apps0 conts slots plans now ep sq a x6 b73 h (fun y x=>y=AV.tup [.agg (stC ⟨ls,qs,nodes,a1Q (hY a now) apps0,conts,slots,plans,now,ep,sq⟩),.int .i64 0]) fun G=>rfl
         unfold owA NL stC at rest
         simp only at rest
         by_cases h16l:16<=apps.length
         · rw [if_pos ⟨h16l,by omega⟩,Int.toNat_natCast]
           have cd:=a5I apps k hk (by omega)
           simp -implicitDefEqProofs(disch:=first|decide|omega)only[↓aA,aC,aB,simprocAttr,x8,bB]
           refine (cd.fr [6]).to ?_
           rintro y G ⟨y0,Hr,⟨rfl,rfl⟩,rfl,rfl⟩
           simp -implicitDefEqProofs(disch:=first|decide|omega)only[↓aA,aC,aB,simprocAttr,x8,AV.ren,AV.lG,AO.ren,spl,j8,ext,bB]
           have rest2:=a4p ls qs nodes (a3m k apps) conts slots plans now ep sq a (by simp [a3m];omega) (fun y x=>y=AV.tup [.agg (stC ⟨ls,qs,nodes,a1Q (hY a now) (a3m k apps),conts,slots,plans,now,ep,sq⟩),.int .i64 0]) fun G=>rfl
           unfold owA NL stC at rest2
           simp only at rest2
           exact rest2
         · rw [if_neg (by omega)]
           simp -implicitDefEqProofs(disch:=first|decide|omega)only[↓aA,aC,aB,simprocAttr,x8,bB]
           exact rest _ _ apps (by omega)
 · have hfn:dP a.id apps=some apps[i]:=h3
   rw [hfn] at h7
   rw [Option.isSome_some,if_pos rfl] at h7
   rw [h1,h7]
   exact Th
theorem aSD:CT s4.labels s4.qs:=⟨by decide,by decide,fun x hx=>by rw [List.mem_singleton.1 hx];decide,by decide,by decide,fun q hq=>by rw [List.mem_singleton.1 hq];exact ⟨by decide,by decide⟩⟩
theorem aMq:NOk s4:=⟨aSD,by decide,by decide,(fun a ha=>by cases ha),by decide,by decide,by decide⟩
end Go.Proofs.YtakemdamegfcfaaGreat
