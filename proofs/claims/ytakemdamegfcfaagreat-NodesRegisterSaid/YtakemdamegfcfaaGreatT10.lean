/- A part of a proof: what states are. No condition. -/
import Derived.Test.YtakemdamegfcfaaGreatT9
set_option linter.unusedSimpArgs false
set_option linter.unusedVariables false
namespace Go.Proofs.YtakemdamegfcfaaGreat
section

variable {CK:List (List UInt8)->List Queue->Prop} {LF:List Queue->List UInt8->Bool} {B:Nat} {s:Sta}
theorem filter_all {α:Type} {l:List α}:l.filter (fun _=>true)=l:=List.filter_eq_self.2 fun _ _=>rfl
theorem yS (h:Inv CK LF B s) {a b:App} (ha:a∈s.apps) (hid:b.id=a.id) (hb:iV B s.now b) (hg:∀ g∈b.grants,g<=s.ep*2^20+s.sq) (hst:b.state=a.state) (hq:b.queue=a.queue):Inv CK LF B (iJ s b):=by
 have hl:live b=live a:=by unfold live;rw [hst]
 have key:=rQ (s:=s) h (a:=a) (b:=b) (p:=fun _=>true) (q:=fun _=>true) ha hid hb hg (fun hx=>⟨by rw [<- hl];exact hx,hq⟩) (fun c hc _ hca=>by
  obtain ⟨y,hy,hye,hyl⟩:=(h.cR c hc).app
  have:=gL h.aS hy ha (by rw [hye,hca])
  subst this
  rw [hl];exact hyl) (fun h2=>by
  obtain ⟨c,hc,h3,h4⟩:=h.m1 a ha (by rw [<- hst];exact h2)
  exact ⟨c,hc,h3,h4,rfl⟩) (fun h1 c hc _=>h.m0 a ha (by rw [<- hst];exact h1) c hc) (fun _ _ _ _ _ _ _ _=>rfl)
 rw [filter_all,filter_all] at key
 exact key
theorem aFQ {a:App} {st:Int} (h:iV B s.now a) (hs:st=3∨st=4):iV B s.now (gD a st) :=
 ⟨h.id,by simp only [gD];omega,h.queue,h.user,h.prio,h.size,by simp [gD],by simp [gD],h.seen,h.beat,List.nodup_nil,Nat.zero_le _,Nat.zero_le _,Nat.zero_le _,Nat.zero_le _⟩
theorem aIC (h:Inv CK LF B s) (id st:Int) (hs:st=3∨st=4):Inv CK LF B (wN s id st):=by
 unfold wN
 cases hf:dP id s.apps with
 | none=>exact h
 | some a =>
   obtain ⟨ha,hae⟩:=jG hf
   simp only
   split
   · have hl:live (gD a st)=false:=by unfold live gD;rcases hs with rfl|rfl<;>rfl
     have key:=rQ (s:=s) h (a:=a) (b:=gD a st) (p:=fun x=>x.app !=id) (q:=fun x=>x.app !=id) ha rfl (aFQ (h.aR a ha) hs) (fun g hg=>by simp [gD] at hg)
      (fun hx=>by rw [hl] at hx;cases hx) (fun c hc hp hca=>by
        have:c.app≠id:=by simpa using hp
        exact absurd (hca.trans hae) this) (fun h2=>by simp only [gD] at h2;omega) (fun h1=>by simp only [gD] at h1;omega) (fun x hx hne _ d hd hdx _=>by
        have:d.app≠id:=by rw [hdx,<- hae];exact hne
        simpa using this)
     exact key
   · exact h
theorem mD {α:Type} {key:α->Int} {n:α}:∀ {l:List α},(eE key n l).length<=l.length+1
 | []=>by simp [eE]
 | y :: r=>by
   have:=mD (key:=key) (n:=n) (l:=r)
   unfold eE
   split
   · simp only [List.length_cons];omega
   · split<;>simp
theorem pW {α:Type} {key:α->Int} {n:α}:∀ {l:List α},Srt key l->(∃ b∈l,key b=key n)->(eE key n l).length=l.length
 | [],_,h=>by obtain ⟨b,hb,_⟩:=h;simp at hb
 | y :: r,hs,⟨b,hb,he⟩=>by
   have h1:=List.pairwise_cons.1 hs
   unfold eE
   rcases List.mem_cons.1 hb with rfl|hb
   · rw [if_neg (by omega),if_pos he]
     rfl
   · have:=h1.1 b hb
     rw [if_pos (by omega),List.length_cons,List.length_cons,pW h1.2 ⟨b,hb,he⟩]
theorem pI {id:Int} {l:List bD} (h:∀ c∈l,c.node≠id):bR id l=(0,0):=by
 unfold bR
 have e:l.filter (fun c=>c.node==id)=[]:=List.filter_eq_nil_iff.2 fun c hc=>by simpa using h c hc
 rw [e]
 rfl
theorem yA (h:Inv CK LF B s) {id:Int} (hn:∀ n∈s.nodes,n.id=id->n.up=false):(∀ c∈s.conts,c.node≠id)/\∀ x∈s.slots,x.node≠id:=by
 refine ⟨fun c hc he=>?_,fun x hx he=>?_⟩
 · obtain ⟨n,hn1,hn2,hn3,_⟩:=(h.cR c hc).node
   rw [hn n hn1 (hn2.trans he)] at hn3
   cases hn3
 · obtain ⟨n,hn1,hn2,hn3⟩:=h.sR x hx
   rw [hn n hn1 (hn2.trans he)] at hn3
   cases hn3
theorem tA (h:Inv CK LF B s) {n:Node} (hok:mS B s.labels.length s.now n) (hlen:(∃ b∈s.nodes,b.id=n.id)∨s.nodes.length<12) (hu:(bR n.id s.conts).1<=n.mem/\(bR n.id s.conts).2<=n.cores)
 (hc:∀ c∈s.conts,c.node=n.id->n.up=true/\n.label=c.label) (hs:∀ x∈s.slots,x.node=n.id->n.up=true):Inv CK LF B (jM s n):=by
 have hiff:∀ x,x∈eE Node.id n s.nodes↔x=n∨(x∈s.nodes/\x.id≠n.id):=fun x=>iZ h.nS
 refine { h with nS:=iI h.nS,nL:=?_,nR:=fun x hx=>?_,cR:=fun c hc'=>?_,fit:=fun x hx=>?_,sR:=fun x hx=>?_ }
 · rcases hlen with hb|hl
   · exact (pW h.nS hb) ▸ h.nL
   · exact Nat.le_trans mD hl
 · rcases (hiff x).1 hx with rfl|⟨hx,_⟩
   · exact hok
   · exact h.nR x hx
 · obtain ⟨c1,c2,c3,c4,c5,y,hy,hye,hyu,hyl⟩:=h.cR c hc'
   refine ⟨c1,c2,c3,c4,c5,?_⟩
   by_cases hy2:y.id=n.id
   · obtain ⟨g1,g2⟩:=hc c hc' (hye.symm.trans hy2)
     exact ⟨n,(hiff n).2 (.inl rfl),hy2.symm.trans hye,g1,g2⟩
   · exact ⟨y,(hiff y).2 (.inr ⟨hy,hy2⟩),hye,hyu,hyl⟩
 · rcases (hiff x).1 hx with rfl|⟨hx,_⟩
   · exact hu
   · exact h.fit x hx
 · obtain ⟨y,hy,hye,hyu⟩:=h.sR x hx
   by_cases hy2:y.id=n.id
   · exact ⟨n,(hiff n).2 (.inl rfl),hy2.symm.trans hye,hs x hx (hye.symm.trans hy2)⟩
   · exact ⟨y,(hiff y).2 (.inr ⟨hy,hy2⟩),hye,hyu⟩
theorem aBy (h:Inv CK LF B s) {n:Node} (hok:mS B s.labels.length s.now n) (hn:∀ x∈s.nodes,x.id=n.id->x.up=false) (hlen:(∃ b∈s.nodes,b.id=n.id)∨s.nodes.length<12):Inv CK LF B (jM s n):=by
 obtain ⟨h1,h2⟩:=yA h hn
 refine tA h hok hlen ?_ (fun c hc he=>absurd he (h1 c hc)) fun x hx he=>absurd he (h2 x hx)
 rw [pI h1]
 exact ⟨hok.mem.1,hok.cores.1⟩
theorem aJ7 (h:Inv CK LF B s) {m n:Node} (hm:m∈s.nodes) (hid:n.id=m.id) (hok:mS B s.labels.length s.now n) (hu:n.up=true) (h1:n.label=m.label) (h2:n.mem=m.mem) (h3:n.cores=m.cores):Inv CK LF B (jM s n):=by
 refine tA h hok (.inl ⟨m,hm,hid.symm⟩) ?_ (fun c hc he=>⟨hu,?_⟩) fun x hx he=>hu
 · rw [hid,h2,h3]
   exact h.fit m hm
 · obtain ⟨y,hy,hye,hyu,hyl⟩:=(h.cR c hc).node
   have:=gL h.nS hy hm (by rw [hye,he,hid])
   subst this
   rw [h1,hyl]
def bV (s:Sta) (node:Int):Sta:={ s with slots:=s.slots.filter fun x=>x.node !=node }
theorem jC (h:Inv CK LF B s) (p:dY->Bool):Inv CK LF B { s with slots:=s.slots.filter p } :=
 { h with sS:=fD h.sS,sR:=fun x hx=>h.sR x (List.mem_filter.1 hx).1,cR:=fun c hc=>⟨(h.cR c hc).id,(h.cR c hc).size,(h.cR c hc).prio,(h.cR c hc).notice,(h.cR c hc).app,(h.cR c hc).node⟩ }
theorem aIF (h:Inv CK LF B s) {m:Node} (hm:m∈s.nodes) (hc:∀ c∈s.conts,c.node≠m.id) (hs:∀ x∈s.slots,x.node≠m.id):Inv CK LF B (jM s { m with up:=false }):=by
 have hr:=h.nR m hm
 refine tA h ⟨hr.id,hr.label,hr.rack,hr.mem,hr.cores,hr.seen,hr.beat⟩ (.inl ⟨m,hm,rfl⟩) ?_ (fun c hc' he=>absurd he (hc c hc')) fun x hx he=>absurd he (hs x hx)
 rw [pI hc]
 exact ⟨hr.mem.1,hr.cores.1⟩
theorem yI (s:Sta) (i:Int):(dX s i).nodes=s.nodes/\(dX s i).labels=s.labels/\(dX s i).qs=s.qs/\(dX s i).plans=s.plans/\(dX s i).now=s.now/\(dX s i).ep=s.ep/\(dX s i).sq=s.sq:=by
 unfold dX
 cases gR i s.conts with
 | none=>exact ⟨rfl,rfl,rfl,rfl,rfl,rfl,rfl⟩
 | some c =>
   simp only
   split<;>exact ⟨rfl,rfl,rfl,rfl,rfl,rfl,rfl⟩
theorem aAv (s:Sta) (i:Int) (ns:List Node):dX { s with nodes:=ns } i={ dX s i with nodes:=ns }:=by
 unfold dX
 cases hf:gR i s.conts with
 | none=>simp only [hf]
 | some c =>
   simp only [hf]
   split<;>rfl
theorem p6:∀ (ids:List Int) (s:Sta) (ns:List Node),fG { s with nodes:=ns } ids={ fG s ids with nodes:=ns }
 | [],_,_=>rfl
 | i :: ids,s,ns=>by
   unfold fG
   rw [List.foldl_cons,List.foldl_cons,aAv]
   exact p6 ids (dX s i) ns
theorem s6:∀ (ids:List Int) (s:Sta),(fG s ids).nodes=s.nodes
 | [],_=>rfl
 | i :: ids,s=>by
   unfold fG
   rw [List.foldl_cons]
   exact (s6 ids (dX s i)).trans (yI s i).1
theorem yJ (s:Sta) (hs:Srt bD.id s.conts) (i:Int):(∀ c∈(dX s i).conts,c∈s.conts/\c.id≠i)/\(∀ x∈(dX s i).slots,x∈s.slots)/\Srt bD.id (dX s i).conts/\(dX s i).conts.length<=s.conts.length:=by
 unfold dX
 cases hf:gR i s.conts with
 | none =>
   refine ⟨fun c hc=>⟨hc,?_⟩,fun _ h=>h,hs,Nat.le_refl _⟩
   have:=List.find?_eq_none.1 hf c hc
   simpa using this
 | some c =>
   obtain ⟨hc,hci⟩:=qC hf
   simp only
   split
   · refine ⟨fun d hd=>?_,fun x hx=>(List.mem_filter.1 hx).1,fD hs,List.length_filter_le _ _⟩
     obtain ⟨h1,h2⟩:=List.mem_filter.1 hd
     refine ⟨h1,fun he=>?_⟩
     have:=gL hs h1 hc (by rw [he,hci])
     subst this
     simp at h2
   · refine ⟨fun d hd=>?_,fun x hx=>hx,fD hs,List.length_filter_le _ _⟩
     obtain ⟨h1,h2⟩:=List.mem_filter.1 hd
     refine ⟨h1,?_⟩
     have:d.id≠c.id:=by simpa using h2
     rw [hci] at this
     exact this
theorem s7:∀ (ids:List Int) (s:Sta) (hs:Srt bD.id s.conts),(∀ c∈(fG s ids).conts,c∈s.conts/\c.id∉ids)/\(∀ x∈(fG s ids).slots,x∈s.slots)
 | [],s,hs=>⟨fun c hc=>⟨hc,by simp⟩,fun _ h=>h⟩
 | i :: ids,s,hs=>by
   obtain ⟨h1,h2,h3,h4⟩:=yJ s hs i
   obtain ⟨g1,g2⟩:=s7 ids (dX s i) h3
   refine ⟨fun c hc=>?_,fun x hx=>h2 x (g2 x hx)⟩
   obtain ⟨q1,q2⟩:=g1 c hc
   obtain ⟨r1,r2⟩:=h1 c q1
   exact ⟨r1,by simp [r2,q2]⟩
def onL (s:Sta) (node:Int):List Int:=(s.conts.filter fun c=>c.node==node).map bD.id
def fU (s:Sta) (id:Int):Sta:=match eH id s.nodes with
 | none=>s
 | some n=>jM s { n with up:=false }
def aIr (s:Sta) (id:Int):Sta:=let t:=bV (fU s id) id
 fG t (onL t id)
theorem aFC (h:Inv CK LF B s) (id:Int):Inv CK LF (B+200) (aIr s id):=by
 unfold aIr fU
 cases hf:eH id s.nodes with
 | none =>
   simp only
   have h1:=jC h fun x=>x.node !=id
   have h2:=jN (onL (bV s id) id) h1
   refine h2.mono ?_
   have:(onL (bV s id) id).length<=200:=by
    unfold onL
    rw [List.length_map]
    exact Nat.le_trans (List.length_filter_le _ _) h.cL
   omega
 | some m =>
   obtain ⟨hm,hid⟩:=gG hf
   simp only
   have e1:bV (jM s { m with up:=false }) id={ bV s id with nodes:=eE Node.id { m with up:=false } s.nodes }:=rfl
   have e2:onL (bV (jM s { m with up:=false }) id) id=onL (bV s id) id:=rfl
   rw [e2,e1,p6]
   have h1:=jC h fun x=>x.node !=id
   have h2:=jN (onL (bV s id) id) h1
   obtain ⟨g1,g2⟩:=s7 (onL (bV s id) id) (bV s id) h.cS
   have hn:=s6 (onL (bV s id) id) (bV s id)
   have hlen:(onL (bV s id) id).length<=200:=by
    unfold onL
    rw [List.length_map]
    exact Nat.le_trans (List.length_filter_le _ _) h.cL
   have h3:Inv CK LF (B+200) (fG (bV s id) (onL (bV s id) id)):=h2.mono (by omega)
   generalize fG (bV s id) (onL (bV s id) id)=t at h2 h3 g1 g2 hn
   have hm2:m∈t.nodes:=by rw [hn];exact hm
   have key:=aIF h3 hm2 (fun c hc he=>by
    obtain ⟨q1,q2⟩:=g1 c hc
    refine q2 ?_
    unfold onL
    exact List.mem_map.2 ⟨c,List.mem_filter.2 ⟨q1,by simp [he,hid]⟩,rfl⟩) (fun x hx he=>by
    have:=(List.mem_filter.1 (g2 x hx)).2
    simp [he,hid] at this)
   have e3:jM t { m with up:=false }={ t with nodes:=eE Node.id { m with up:=false } s.nodes }:=by
    unfold jM
    rw [hn]
    rfl
   rw [e3] at key
   exact key
def fQ (p:Int) (l:List Ask):List Ask:=l.filterMap fun a=>if a.prio==p then (if a.count-1<=0 then none else some { a with count:=a.count-1,missed:=0 }) else some a
theorem aGy {l:List Ask} {p:Int} (h:∀ x∈l,jT x):(fQ p l).length<=l.length/\∀ x∈fQ p l,jT x:=by
 refine ⟨List.length_filterMap_le _ _,fun x hx=>?_⟩
 obtain ⟨y,hy,he⟩:=List.mem_filterMap.1 hx
 have h1:=h y hy
 have hc:=h1.count
 split at he
 · split at he
   · cases he
   · cases he
     exact ⟨h1.prio,h1.label,h1.size,by simp only;omega,h1.node,h1.rack,by simp⟩
 · cases he
   exact h1
def jV (s:Sta) (n:Node) (a:App) (x:Ask):bD:=⟨s.ep*2^20+(s.sq+1),a.id,n.id,x.mem,x.cores,x.prio,n.label,a.state==1,0⟩
def dC (s:Sta) (n:Node) (a:App) (x:Ask):App :=
 if a.state==1 then { a with state:=2,asks:=[],seen:=s.now,beat:=0 } else { a with asks:=fQ x.prio a.asks,grants:=a.grants++[(jV s n a x).id] }
def mK (s:Sta) (n:Node) (a:App) (x:Ask):Sta :=
 { s with sq:=s.sq+1,conts:=gH bD.id (jV s n a x) s.conts,apps:=eE App.id (dC s n a x) s.apps }
theorem yT {α:Type} {key:α->Int} {n:α}:∀ {l:List α},(∀ x∈l,key x<key n)->gH key n l=l++[n]
 | [],_=>rfl
 | y :: r,h=>by
   unfold gH
   rw [if_pos (h y (by simp)),yT fun x hx=>h x (by simp [hx])]
   rfl
theorem pH {id:Int} {l:List bD} {c:bD}:bR id (l++[c])=if c.node=id then ((bR id l).1+c.mem,(bR id l).2+c.cores) else bR id l:=by
 unfold bR
 rw [List.filter_append]
 by_cases h:c.node=id
 · rw [if_pos h]
   have:[c].filter (fun c=>c.node==id)=[c]:=by simp [h]
   rw [this]
   simp
 · rw [if_neg h]
   have:[c].filter (fun c=>c.node==id)=[]:=by simp [h]
   rw [this]
   simp
theorem vG (h:Inv CK LF B s) {n:Node} {a:App} {x:Ask} (hn:n∈s.nodes) (hup:n.up=true) (ha:a∈s.apps) (hl:live a=true) (hx:jT x) (hc:s.conts.length<200) (hq:s.sq+1<2^20)
 (h1:(bR n.id s.conts).1+x.mem<=n.mem) (h2:(bR n.id s.conts).2+x.cores<=n.cores):Inv CK LF (B+1) (mK s n a x):=by
 have hep:=h.ep
 have hsq:=h.sq
 have hnow:=h.now
 have hord:∀ c∈s.conts,bD.id c<bD.id (jV s n a x):=fun c hc=>by
  have:=(h.cR c hc).id
  show c.id<s.ep*2^20+(s.sq+1)
  omega
 have hins:gH bD.id (jV s n a x) s.conts=s.conts++[jV s n a x]:=yT hord
 have hor:=h.aR a ha
 have hgid:(dC s n a x).id=a.id:=by unfold dC;split<;>rfl
 have hgl:live (dC s n a x)=true:=by
  unfold dC
  split
  · rfl
  · exact hl
 have hst:a.state=1∨a.state=2:=by
  unfold live at hl
  simpa using hl
 have hgs:(dC s n a x).state=2:=by
  unfold dC
  split
  · rfl
  · rename_i h1
    have:¬ a.state=1:=by simpa using h1
    show a.state=2
    omega
 have hok:iV (B+1) s.now (dC s n a x):=by
  have hm:=hor.mono (B':=B+1) (by omega)
  unfold dC
  split
  · exact ⟨hm.id,by simp,hm.queue,hm.user,hm.prio,hm.size,by simp,by simp,⟨hnow.1,Int.le_refl _⟩,trivial,hm.gn,hm.gl,hm.kl,hm.tl,hm.ll⟩
  · obtain ⟨t1,t2⟩:=aGy (p:=x.prio) hor.ask
    refine { hm with asks:=Nat.le_trans t1 hm.asks,ask:=t2,gn:=?_,gl:=?_ }
    · refine List.nodup_append.2 ⟨hm.gn,by simp,fun g hg d hd=>?_⟩
      rw [List.mem_singleton] at hd
      subst hd
      have:=h.aG a ha g hg
      show g≠s.ep*2^20+(s.sq+1)
      omega
    · have:=hor.gl
      simp only [List.length_append,List.length_cons,List.length_nil]
      omega
 have hiff:∀ y,y∈eE App.id (dC s n a x) s.apps↔y=dC s n a x∨(y∈s.apps/\y.id≠(dC s n a x).id):=fun y=>iZ h.aS
 have hmem:∀ c,c∈(mK s n a x).conts↔c∈s.conts∨c=jV s n a x:=fun c=>by
  show c∈gH bD.id (jV s n a x) s.conts↔_
  rw [hins]
  simp
 have hb:(jV s n a x).node=n.id:=rfl
 refine ⟨h.ck,h.nS,h.nL,fun m hm=>(h.nR m hm).mono (by omega),iI h.aS,?_,fun y hy=>?_,fun y hy hyl=>?_,fun y hy g hg=>?_,?_,?_,fun c hc=>?_,fun m hm=>?_,fun y hy hys=>?_,fun c hc d hd hcd hcm hdm=>?_,fun y hy hys c hc=>?_,h.sS,h.sR,h.pS,h.pL,h.pR,h.now,h.ep,?_⟩
 · exact (pW h.aS ⟨a,ha,hgid.symm⟩) ▸ h.aL
 · rcases (hiff y).1 hy with rfl|⟨hy,_⟩
   · exact hok
   · exact (h.aR y hy).mono (by omega)
 · rcases (hiff y).1 hy with rfl|⟨hy,_⟩
   · have:(dC s n a x).queue=a.queue:=by unfold dC;split<;>rfl
     rw [this]
     exact h.aQ a ha hl
   · exact h.aQ y hy hyl
 · show g<=s.ep*2^20+(s.sq+1)
   rcases (hiff y).1 hy with rfl|⟨hy,_⟩
   · unfold dC at hg
     split at hg
     · have:=h.aG a ha g hg
       omega
     · rcases List.mem_append.1 hg with hg|hg
       · have:=h.aG a ha g hg
         omega
       · rw [List.mem_singleton] at hg
         subst hg
         exact Int.le_refl _
   · have:=h.aG y hy g hg
     omega
 · show Srt bD.id (gH bD.id (jV s n a x) s.conts)
   rw [hins]
   refine List.pairwise_append.2 ⟨h.cS,by simp,fun c hc d hd=>?_⟩
   rw [List.mem_singleton] at hd
   subst hd
   exact hord c hc
 · show (gH bD.id (jV s n a x) s.conts).length<=200
   rw [hins]
   simp only [List.length_append,List.length_cons,List.length_nil]
   omega
 · rcases (hmem c).1 hc with hc|rfl
   · obtain ⟨c1,c2,c3,c4,⟨y,hy,hye,hyl⟩,c6⟩:=h.cR c hc
     refine ⟨⟨c1.1,?_⟩,c2,c3,c4,?_,c6⟩
     · show c.id<=s.ep*2^20+(s.sq+1)
       omega
     · by_cases hya:y.id=a.id
       · exact ⟨dC s n a x,(hiff _).2 (.inl rfl),by rw [hgid,<- hya,hye],hgl⟩
       · exact ⟨y,(hiff y).2 (.inr ⟨hy,by rw [hgid];exact hya⟩),hye,hyl⟩
   · refine ⟨⟨?_,Int.le_refl _⟩,hx.size,hx.prio,⟨Int.le_refl _,.inl hnow.1⟩,⟨dC s n a x,(hiff _).2 (.inl rfl),hgid,hgl⟩,⟨n,hn,rfl,hup,rfl⟩⟩
     show 1<=s.ep*2^20+(s.sq+1)
     omega
 · show (bR m.id (gH bD.id (jV s n a x) s.conts)).1<=m.mem/\(bR m.id (gH bD.id (jV s n a x) s.conts)).2<=m.cores
   rw [hins,pH]
   split
   · rename_i he
     have:n=m:=gL h.nS hn hm he
     subst this
     exact ⟨h1,h2⟩
   · exact h.fit m hm
 · rcases (hiff y).1 hy with rfl|⟨hy,hne⟩
   · rw [hgid]
     rcases hst with hs1|hs2
     · exact ⟨jV s n a x,(hmem _).2 (.inr rfl),rfl,by simp [jV,hs1]⟩
     · obtain ⟨c,hc,hca,hcm⟩:=h.m1 a ha hs2
       exact ⟨c,(hmem c).2 (.inl hc),hca,hcm⟩
   · obtain ⟨c,hc,hca,hcm⟩:=h.m1 y hy hys
     exact ⟨c,(hmem c).2 (.inl hc),hca,hcm⟩
 · rcases (hmem c).1 hc with hc|rfl<;>rcases (hmem d).1 hd with hd|rfl
   · exact h.m2 c hc d hd hcd hcm hdm
   · have hs1:a.state=1:=by simpa [jV] using hdm
     exact absurd hcd (h.m0 a ha hs1 c hc)
   · have hs1:a.state=1:=by simpa [jV] using hcm
     exact absurd hcd.symm (h.m0 a ha hs1 d hd)
   · rfl
 · rcases (hiff y).1 hy with rfl|⟨hy,hne⟩
   · rw [hgs] at hys
     cases hys
   · rcases (hmem c).1 hc with hc|rfl
     · exact h.m0 y hy hys c hc
     · intro he
       exact hne (by rw [hgid];exact he.symm)
 · exact ⟨by show 0<=s.sq+1;omega,hq⟩
end
section

variable {CK:List (List UInt8)->List Queue->Prop} {LF:List Queue->List UInt8->Bool} {B:Nat} {s:Sta}
def yW (s:Sta) (x:dY):Sta:={ s with slots:=gH dY.node x s.slots }
theorem aIp (h:Inv CK LF B s) {x:dY} (hx:∀ y∈s.slots,y.node≠x.node) (hn:∃ n∈s.nodes,n.id=x.node/\n.up=true):Inv CK LF B (yW s x):=by
 have e:gH dY.node x s.slots=eE dY.node x s.slots:=rR hx
 have hst:Srt dY.node (gH dY.node x s.slots):=by rw [e];exact iI h.sS
 refine { h with sS:=hst,sR:=fun y hy=>?_,cR:=fun c hc=>⟨(h.cR c hc).id,(h.cR c hc).size,(h.cR c hc).prio,(h.cR c hc).notice,(h.cR c hc).app,(h.cR c hc).node⟩ }
 have hy:y∈eE dY.node x s.slots:=by rw [<- e];exact hy
 rcases mF hy with rfl|hy
 · exact hn
 · exact h.sR y hy
def dV (id t:Int) (c:bD):bD:=if c.id=id then { c with notice:=t } else c
def x6 (s:Sta) (id t:Int):Sta:={ s with conts:=s.conts.map (dV id t) }
theorem dG (id t:Int) (c:bD):(dV id t c).id=c.id/\(dV id t c).app=c.app/\(dV id t c).node=c.node/\(dV id t c).mem=c.mem/\(dV id t c).cores=c.cores/\(dV id t c).prio=c.prio/\(dV id t c).label=c.label/\(dV id t c).master=c.master:=by
 unfold dV
 split<;>exact ⟨rfl,rfl,rfl,rfl,rfl,rfl,rfl,rfl⟩
theorem aEW (id t:Int) (n:Int) (l:List bD):bR n (l.map (dV id t))=bR n l:=by
 unfold bR
 have e:∀ f:bD->Int,(∀ c,f (dV id t c)=f c)->((l.map (dV id t)).filter fun c=>c.node==n).map f=(l.filter fun c=>c.node==n).map f:=fun f hf=>by
  rw [List.filter_map,List.map_map]
  have e2:((fun c:bD=>c.node==n)∘dV id t)=fun c=>c.node==n:=by
   funext c
   simp only [Function.comp]
   rw [(dG id t c).2.2.1]
  rw [e2]
  refine List.map_congr_left fun c _=>?_
  exact hf c
 rw [e bD.mem fun c=>(dG id t c).2.2.2.1,e bD.cores fun c=>(dG id t c).2.2.2.2.1]
theorem x5 (h:Inv CK LF B s) (id t:Int) (ht:0<=t/\(t<=s.now∨t<=1)):Inv CK LF B (x6 s id t):=by
 have hmem:∀ c∈(x6 s id t).conts,∃ d∈s.conts,c=dV id t d:=fun c hc=>by
  obtain ⟨d,hd,rfl⟩:=List.mem_map.1 hc
  exact ⟨d,hd,rfl⟩
 refine { h with cS:=?_,cL:=?_,cR:=fun c hc=>?_,fit:=fun n hn=>?_,m1:=fun a ha hst=>?_,m2:=fun c hc d hd=>?_,m0:=fun a ha hst c hc=>?_ }
 · show Srt bD.id (s.conts.map (dV id t))
   refine List.pairwise_map.2 (h.cS.imp fun {a b} hab=>?_)
   rw [(dG id t a).1,(dG id t b).1]
   exact hab
 · show (s.conts.map (dV id t)).length<=200
   rw [List.length_map]
   exact h.cL
 · obtain ⟨d,hd,rfl⟩:=hmem c hc
   obtain ⟨c1,c2,c3,c4,c5,c6⟩:=h.cR d hd
   obtain ⟨e1,e2,e3,e4,e5,e6,e7,e8⟩:=dG id t d
   refine ⟨by rw [e1];exact c1,by rw [e4,e5];exact c2,by rw [e6];exact c3,?_,by rw [e2];exact c5,by rw [e3,e7];exact c6⟩
   unfold dV
   split
   · exact ht
   · exact c4
 · show (bR n.id (s.conts.map (dV id t))).1<=n.mem/\(bR n.id (s.conts.map (dV id t))).2<=n.cores
   rw [aEW]
   exact h.fit n hn
 · obtain ⟨c,hc,h1,h2⟩:=h.m1 a ha hst
   obtain ⟨e1,e2,e3,e4,e5,e6,e7,e8⟩:=dG id t c
   exact ⟨dV id t c,List.mem_map.2 ⟨c,hc,rfl⟩,e2.trans h1,e8.trans h2⟩
 · obtain ⟨x,hx,rfl⟩:=hmem c hc
   obtain ⟨y,hy,rfl⟩:=hmem d hd
   rw [(dG id t x).2.1,(dG id t y).2.1,(dG id t x).2.2.2.2.2.2.2,(dG id t y).2.2.2.2.2.2.2]
   intro h1 h2 h3
   rw [h.m2 x hx y hy h1 h2 h3]
 · obtain ⟨x,hx,rfl⟩:=hmem c hc
   rw [(dG id t x).2.1]
   exact h.m0 a ha hst x hx
def hY (a:App) (now:Int):App:=⟨a.id,1,a.queue,a.user,a.prio,a.mem,a.cores,mM a,now,0,[],[],[],[]⟩
def cG:List App->List App
 | []=>[]
 | a :: r=>if live a then a :: cG r else r
theorem lN:∀ (l:List App),(cG l).Sublist l
 | []=>List.Sublist.slnil
 | a :: r=>by
   unfold cG
   split
   · exact (lN r).cons_cons a
   · exact List.sublist_cons_self a r
theorem qU:∀ {l:List App} {a:App},a∈l->live a=true->a∈cG l
 | b :: r,a,h,hl=>by
   unfold cG
   split
   · rcases List.mem_cons.1 h with rfl|h
     · simp
     · exact List.mem_cons_of_mem _ (qU h hl)
   · rcases List.mem_cons.1 h with rfl|h
     · rename_i h2;exact absurd hl h2
     · exact h
theorem tG:∀ {l:List App},(l.filter live).length<l.length->(cG l).length+1=l.length
 | [],h=>by simp at h
 | a :: r,h=>by
   unfold cG
   split
   · rename_i hl
     rw [List.filter_cons,if_pos hl] at h
     simp only [List.length_cons] at h ⊢
     have:=tG (l:=r) (by omega)
     omega
   · rfl
theorem aKe (h:Inv CK LF B s) {l:List App} (hs:l.Sublist s.apps) (hl:∀ a∈s.apps,live a=true->a∈l):Inv CK LF B { s with apps:=l }:=by
 refine { h with aS:=List.Pairwise.sublist hs h.aS,aL:=Nat.le_trans hs.length_le h.aL,aR:=fun a ha=>h.aR a (hs.subset ha),aQ:=fun a ha=>h.aQ a (hs.subset ha),aG:=fun a ha=>h.aG a (hs.subset ha),cR:=fun c hc=>?_,m1:=fun a ha=>h.m1 a (hs.subset ha),m0:=fun a ha=>h.m0 a (hs.subset ha) }
 obtain ⟨c1,c2,c3,c4,⟨y,hy,hye,hyl⟩,c6⟩:=h.cR c hc
 exact ⟨c1,c2,c3,c4,⟨y,hl y hy hyl,hye,hyl⟩,c6⟩
theorem aFf {a:App} (hn:0<=s.now) (h1:0<=a.id/\a.id<=9999) (h2:0<=a.user/\a.user<=99) (h3:0<=a.prio/\a.prio<=9) (h4:okV a.mem a.cores) (h5:a.queue.length<=60):iV B s.now (hY a s.now):=by
 refine ⟨h1,by simp [hY],h5,h2,h3,h4,by simp [hY,mM],fun x hx=>?_,⟨hn,Int.le_refl _⟩,by simp [hY],List.nodup_nil,Nat.zero_le _,Nat.zero_le _,Nat.zero_le _,Nat.zero_le _⟩
 simp only [hY,mM,List.mem_singleton] at hx
 subst hx
 exact ⟨by simp,by simp,h4,by simp,by simp,by simp,by simp⟩
theorem aNV (h:Inv CK LF B s) {b:App} (hb:iV B s.now b) (hst:b.state=1) (hg:b.grants=[]) (hno:∀ x∈s.apps,x.id≠b.id) (hlen:s.apps.length<16) (hq:LF s.qs b.queue=true):Inv CK LF B (iJ s b):=by
 have hiff:∀ x,x∈eE App.id b s.apps↔x=b∨(x∈s.apps/\x.id≠b.id):=fun x=>iZ h.aS
 refine { h with aS:=iI h.aS,aL:=Nat.le_trans mD hlen,aR:=fun x hx=>?_,aQ:=fun x hx hl=>?_,aG:=fun x hx g hgm=>?_,cR:=fun c hc=>?_,m1:=fun x hx hs=>?_,m0:=fun x hx hs c hc=>?_ }
 · rcases (hiff x).1 hx with rfl|⟨hx,_⟩
   · exact hb
   · exact h.aR x hx
 · rcases (hiff x).1 hx with rfl|⟨hx,_⟩
   · exact hq
   · exact h.aQ x hx hl
 · rcases (hiff x).1 hx with rfl|⟨hx,_⟩
   · rw [hg] at hgm;simp at hgm
   · exact h.aG x hx g hgm
 · obtain ⟨c1,c2,c3,c4,⟨y,hy,hye,hyl⟩,c6⟩:=h.cR c hc
   exact ⟨c1,c2,c3,c4,⟨y,(hiff y).2 (.inr ⟨hy,hno y hy⟩),hye,hyl⟩,c6⟩
 · rcases (hiff x).1 hx with rfl|⟨hx,_⟩
   · rw [hst] at hs;cases hs
   · exact h.m1 x hx hs
 · rcases (hiff x).1 hx with rfl|⟨hx,_⟩
   · intro he
     obtain ⟨y,hy,hye,hyl⟩:=(h.cR c hc).app
     exact hno y hy (hye.trans he)
   · exact h.m0 x hx hs c hc
theorem aJ8 (h:Inv CK LF B s) {id:Int} (hm:∀ c∈s.conts,c.id=id->c.master=false):Inv CK LF B (mR s id):=by
 refine { h with cS:=fD h.cS,cL:=Nat.le_trans (List.length_filter_le _ _) h.cL,cR:=fun c hc=>?_,fit:=fun n hn=>?_,m1:=fun a ha hst=>?_,m2:=fun c hc d hd=>h.m2 c (List.mem_filter.1 hc).1 d (List.mem_filter.1 hd).1,m0:=fun a ha hst c hc=>h.m0 a ha hst c (List.mem_filter.1 hc).1 }
 · have h1:=h.cR c (List.mem_filter.1 hc).1
   exact ⟨h1.id,h1.size,h1.prio,h1.notice,h1.app,h1.node⟩
 · have:=qM (p:=fun c=>c.id !=id) n.id fun c hc=>(h.cR c hc).size
   have:=h.fit n hn
   simp only [mR]
   omega
 · obtain ⟨c,hc,h1,h2⟩:=h.m1 a ha hst
   refine ⟨c,List.mem_filter.2 ⟨hc,?_⟩,h1,h2⟩
   have:c.id≠id:=fun he=>by rw [hm c hc he] at h2;cases h2
   simpa using this
theorem aMp (h:Inv CK LF B s) {t:Int} (h1:s.now<=t) (h2:t<=1000000000):Inv CK LF B { s with now:=t }:=by
 have hn:=h.now
 refine { h with nR:=fun n hn=>?_,aR:=fun a ha=>?_,cR:=fun c hc=>?_,now:=⟨by simp only;omega,h2⟩ }
 · have:=h.nR n hn
   exact { this with seen:=⟨this.seen.1,by have:=this.seen.2;simp only;omega⟩ }
 · have:=h.aR a ha
   exact { this with seen:=⟨this.seen.1,by have:=this.seen.2;simp only;omega⟩ }
 · obtain ⟨c1,c2,c3,c4,c5,c6⟩:=h.cR c hc
   exact ⟨c1,c2,c3,⟨c4.1,by simp only;omega⟩,c5,c6⟩
theorem pX (h:Inv CK LF B s) {l:List dR} (hs:Srt dR.id l) (hl:l.length<=12) (hr:∀ p∈l,wZ p):Inv CK LF B { s with plans:=l } :=
 { h with pS:=hs,pL:=hl,pR:=hr,cR:=fun c hc=>⟨(h.cR c hc).id,(h.cR c hc).size,(h.cR c hc).prio,(h.cR c hc).notice,(h.cR c hc).app,(h.cR c hc).node⟩ }
theorem aFP (h:Inv CK LF B s) (he:s.ep<2^20):Inv CK LF B { s with ep:=s.ep+1,sq:=0 }:=by
 have hep:=h.ep
 have hsq:=h.sq
 refine { h with aG:=fun a ha g hg=>?_,cR:=fun c hc=>?_,ep:=⟨by simp only;omega,by simp only;omega⟩,sq:=⟨by simp,by simp⟩ }
 · have:=h.aG a ha g hg
   simp only
   omega
 · obtain ⟨c1,c2,c3,c4,c5,c6⟩:=h.cR c hc
   exact ⟨⟨c1.1,by have:=c1.2;simp only;omega⟩,c2,c3,c4,c5,c6⟩
theorem aIR (h:Inv CK LF B s) {ls:List (List UInt8)} {qs:List Queue} (hc:CK ls qs) (hl:s.labels.length<=ls.length) (hlf:∀ a∈s.apps,live a=true->LF qs a.queue=true):Inv CK LF B { s with labels:=ls,qs:=qs } :=
 { h with ck:=hc,nR:=fun n hn=>(by have:=h.nR n hn;exact { this with label:=⟨this.label.1,by have:=this.label.2;simp only;omega⟩ }),aQ:=hlf,cR:=fun c hc=>⟨(h.cR c hc).id,(h.cR c hc).size,(h.cR c hc).prio,(h.cR c hc).notice,(h.cR c hc).app,(h.cR c hc).node⟩ }
end
end Go.Proofs.YtakemdamegfcfaaGreat
