/- A part of a proof: what states are. No condition. -/
import Derived.Test.YtakemdamegfcfaaGreatT7
set_option linter.unusedSimpArgs false
set_option linter.unusedVariables false
namespace Go.Proofs.YtakemdamegfcfaaGreat
section

variable {CK:List (List UInt8)->List Queue->Prop} {LF:List Queue->List UInt8->Bool} {B:Nat} {s:Sta}
def yW (s:Sta) (x:dY):Sta:={ s with slots:=gH dY.node x s.slots }
theorem aIp (h:Inv CK LF B s) {x:dY} (hx:∀ y∈s.slots,y.node≠x.node) (hn:∃ n∈s.nodes,n.id=x.node/\n.up=true):Inv CK LF B (yW s x):=by
 have e:gH dY.node x s.slots=eE dY.node x s.slots:=rR hx
 have hst:Srt dY.node (gH dY.node x s.slots):=by rw [e];exact iI h.sS
 refine { h with sS:=hst,sR:=fun y hy=>?_,cR:=fun c hc=>⟨(h.cR c hc).id,(h.cR c hc).size,(h.cR c hc).prio,(h.cR c hc).notice,(h.cR c hc).app,(h.cR c hc).node⟩ }
 have hy:y∈eE dY.node x s.slots:=by rw [<- e];exact hy
 rcases mF hy with rfl|hy
 · exact hn
 · exact h.sR y hy
def dV (id t:Int) (c:bD):bD:=if c.id=id then { c with notice:=t } else c
def a2y (s:Sta) (id t:Int):Sta:={ s with conts:=s.conts.map (dV id t) }
theorem dG (id t:Int) (c:bD):(dV id t c).id=c.id/\(dV id t c).app=c.app/\(dV id t c).node=c.node/\(dV id t c).mem=c.mem/\(dV id t c).cores=c.cores/\(dV id t c).prio=c.prio/\(dV id t c).label=c.label/\(dV id t c).master=c.master:=by
 unfold dV
 split<;>exact ⟨rfl,rfl,rfl,rfl,rfl,rfl,rfl,rfl⟩
theorem aEW (id t:Int) (n:Int) (l:List bD):bR n (l.map (dV id t))=bR n l:=by
 unfold bR
 have e:∀ f:bD->Int,(∀ c,f (dV id t c)=f c)->((l.map (dV id t)).filter fun c=>c.node==n).map f=(l.filter fun c=>c.node==n).map f:=fun f hf=>by
  rw [List.filter_map,List.map_map]
  have e2:((fun c:bD=>c.node==n)∘dV id t)=fun c=>c.node==n:=by
   funext c
   simp only [Function.comp]
   rw [(dG id t c).2.2.1]
  rw [e2]
  refine List.map_congr_left fun c _=>?_
  exact hf c
 rw [e bD.mem fun c=>(dG id t c).2.2.2.1,e bD.cores fun c=>(dG id t c).2.2.2.2.1]
theorem x5 (h:Inv CK LF B s) (id t:Int) (ht:0<=t/\(t<=s.now∨t<=1)):Inv CK LF B (a2y s id t):=by
 have hmem:∀ c∈(a2y s id t).conts,∃ d∈s.conts,c=dV id t d:=fun c hc=>by
  obtain ⟨d,hd,rfl⟩:=List.mem_map.1 hc
  exact ⟨d,hd,rfl⟩
 refine { h with cS:=?_,cL:=?_,cR:=fun c hc=>?_,fit:=fun n hn=>?_,m1:=fun a ha hst=>?_,m2:=fun c hc d hd=>?_,m0:=fun a ha hst c hc=>?_ }
 · show Srt bD.id (s.conts.map (dV id t))
   refine List.pairwise_map.2 (h.cS.imp fun {a b} hab=>?_)
   rw [(dG id t a).1,(dG id t b).1]
   exact hab
 · show (s.conts.map (dV id t)).length<=200
   rw [List.length_map]
   exact h.cL
 · obtain ⟨d,hd,rfl⟩:=hmem c hc
   obtain ⟨c1,c2,c3,c4,c5,c6⟩:=h.cR d hd
   obtain ⟨e1,e2,e3,e4,e5,e6,e7,e8⟩:=dG id t d
   refine ⟨by rw [e1];exact c1,by rw [e4,e5];exact c2,by rw [e6];exact c3,?_,by rw [e2];exact c5,by rw [e3,e7];exact c6⟩
   unfold dV
   split
   · exact ht
   · exact c4
 · show (bR n.id (s.conts.map (dV id t))).1<=n.mem/\(bR n.id (s.conts.map (dV id t))).2<=n.cores
   rw [aEW]
   exact h.fit n hn
 · obtain ⟨c,hc,h1,h2⟩:=h.m1 a ha hst
   obtain ⟨e1,e2,e3,e4,e5,e6,e7,e8⟩:=dG id t c
   exact ⟨dV id t c,List.mem_map.2 ⟨c,hc,rfl⟩,e2.trans h1,e8.trans h2⟩
 · obtain ⟨x,hx,rfl⟩:=hmem c hc
   obtain ⟨y,hy,rfl⟩:=hmem d hd
   rw [(dG id t x).2.1,(dG id t y).2.1,(dG id t x).2.2.2.2.2.2.2,(dG id t y).2.2.2.2.2.2.2]
   intro h1 h2 h3
   rw [h.m2 x hx y hy h1 h2 h3]
 · obtain ⟨x,hx,rfl⟩:=hmem c hc
   rw [(dG id t x).2.1]
   exact h.m0 a ha hst x hx
def hY (a:App) (now:Int):App:=⟨a.id,1,a.queue,a.user,a.prio,a.mem,a.cores,mM a,now,0,[],[],[],[]⟩
def cG:List App->List App
 | []=>[]
 | a :: r=>if live a then a :: cG r else r
theorem lN:∀ (l:List App),(cG l).Sublist l
 | []=>List.Sublist.slnil
 | a :: r=>by
   unfold cG
   split
   · exact (lN r).cons_cons a
   · exact List.sublist_cons_self a r
theorem qU:∀ {l:List App} {a:App},a∈l->live a=true->a∈cG l
 | b :: r,a,h,hl=>by
   unfold cG
   split
   · rcases List.mem_cons.1 h with rfl|h
     · simp
     · exact List.mem_cons_of_mem _ (qU h hl)
   · rcases List.mem_cons.1 h with rfl|h
     · rename_i h2;exact absurd hl h2
     · exact h
theorem tG:∀ {l:List App},(l.filter live).length<l.length->(cG l).length+1=l.length
 | [],h=>by simp at h
 | a :: r,h=>by
   unfold cG
   split
   · rename_i hl
     rw [List.filter_cons,if_pos hl] at h
     simp only [List.length_cons] at h ⊢
     have:=tG (l:=r) (by omega)
     omega
   · rfl
theorem aKe (h:Inv CK LF B s) {l:List App} (hs:l.Sublist s.apps) (hl:∀ a∈s.apps,live a=true->a∈l):Inv CK LF B { s with apps:=l }:=by
 refine { h with aS:=List.Pairwise.sublist hs h.aS,aL:=Nat.le_trans hs.length_le h.aL,aR:=fun a ha=>h.aR a (hs.subset ha),aQ:=fun a ha=>h.aQ a (hs.subset ha),aG:=fun a ha=>h.aG a (hs.subset ha),cR:=fun c hc=>?_,m1:=fun a ha=>h.m1 a (hs.subset ha),m0:=fun a ha=>h.m0 a (hs.subset ha) }
 obtain ⟨c1,c2,c3,c4,⟨y,hy,hye,hyl⟩,c6⟩:=h.cR c hc
 exact ⟨c1,c2,c3,c4,⟨y,hl y hy hyl,hye,hyl⟩,c6⟩
theorem aFf {a:App} (hn:0<=s.now) (h1:0<=a.id/\a.id<=8999) (h2:0<=a.user/\a.user<=99) (h3:0<=a.prio/\a.prio<=9) (h4:okV a.mem a.cores) (h5:a.queue.length<=60):iV B s.now (hY a s.now):=by
 refine ⟨h1,by simp [hY],h5,h2,h3,h4,by simp [hY,mM],fun x hx=>?_,⟨hn,Int.le_refl _⟩,by simp [hY],List.nodup_nil,Nat.zero_le _,Nat.zero_le _,Nat.zero_le _,Nat.zero_le _⟩
 simp only [hY,mM,List.mem_singleton] at hx
 subst hx
 exact ⟨by simp,by simp,h4,by simp,by simp,by simp,by simp⟩
theorem aNV (h:Inv CK LF B s) {b:App} (hb:iV B s.now b) (hst:b.state=1) (hg:b.grants=[]) (hno:∀ x∈s.apps,x.id≠b.id) (hlen:s.apps.length<16) (hq:LF s.qs b.queue=true):Inv CK LF B (iJ s b):=by
 have hiff:∀ x,x∈eE App.id b s.apps↔x=b∨(x∈s.apps/\x.id≠b.id):=fun x=>iZ h.aS
 refine { h with aS:=iI h.aS,aL:=Nat.le_trans mD hlen,aR:=fun x hx=>?_,aQ:=fun x hx hl=>?_,aG:=fun x hx g hgm=>?_,cR:=fun c hc=>?_,m1:=fun x hx hs=>?_,m0:=fun x hx hs c hc=>?_ }
 · rcases (hiff x).1 hx with rfl|⟨hx,_⟩
   · exact hb
   · exact h.aR x hx
 · rcases (hiff x).1 hx with rfl|⟨hx,_⟩
   · exact hq
   · exact h.aQ x hx hl
 · rcases (hiff x).1 hx with rfl|⟨hx,_⟩
   · rw [hg] at hgm;simp at hgm
   · exact h.aG x hx g hgm
 · obtain ⟨c1,c2,c3,c4,⟨y,hy,hye,hyl⟩,c6⟩:=h.cR c hc
   exact ⟨c1,c2,c3,c4,⟨y,(hiff y).2 (.inr ⟨hy,hno y hy⟩),hye,hyl⟩,c6⟩
 · rcases (hiff x).1 hx with rfl|⟨hx,_⟩
   · rw [hst] at hs;cases hs
   · exact h.m1 x hx hs
 · rcases (hiff x).1 hx with rfl|⟨hx,_⟩
   · intro he
     obtain ⟨y,hy,hye,hyl⟩:=(h.cR c hc).app
     exact hno y hy (hye.trans he)
   · exact h.m0 x hx hs c hc
theorem aJ8 (h:Inv CK LF B s) {id:Int} (hm:∀ c∈s.conts,c.id=id->c.master=false):Inv CK LF B (mR s id):=by
 refine { h with cS:=fD h.cS,cL:=Nat.le_trans (List.length_filter_le _ _) h.cL,cR:=fun c hc=>?_,fit:=fun n hn=>?_,m1:=fun a ha hst=>?_,m2:=fun c hc d hd=>h.m2 c (List.mem_filter.1 hc).1 d (List.mem_filter.1 hd).1,m0:=fun a ha hst c hc=>h.m0 a ha hst c (List.mem_filter.1 hc).1 }
 · have h1:=h.cR c (List.mem_filter.1 hc).1
   exact ⟨h1.id,h1.size,h1.prio,h1.notice,h1.app,h1.node⟩
 · have:=qM (p:=fun c=>c.id !=id) n.id fun c hc=>(h.cR c hc).size
   have:=h.fit n hn
   simp only [mR]
   omega
 · obtain ⟨c,hc,h1,h2⟩:=h.m1 a ha hst
   refine ⟨c,List.mem_filter.2 ⟨hc,?_⟩,h1,h2⟩
   have:c.id≠id:=fun he=>by rw [hm c hc he] at h2;cases h2
   simpa using this
theorem aMp (h:Inv CK LF B s) {t:Int} (h1:s.now<=t) (h2:t<=1000000000):Inv CK LF B { s with now:=t }:=by
 have hn:=h.now
 refine { h with nR:=fun n hn=>?_,aR:=fun a ha=>?_,cR:=fun c hc=>?_,now:=⟨by simp only;omega,h2⟩ }
 · have:=h.nR n hn
   exact { this with seen:=⟨this.seen.1,by have:=this.seen.2;simp only;omega⟩ }
 · have:=h.aR a ha
   exact { this with seen:=⟨this.seen.1,by have:=this.seen.2;simp only;omega⟩ }
 · obtain ⟨c1,c2,c3,c4,c5,c6⟩:=h.cR c hc
   exact ⟨c1,c2,c3,⟨c4.1,by simp only;omega⟩,c5,c6⟩
theorem pX (h:Inv CK LF B s) {l:List dR} (hs:Srt dR.id l) (hl:l.length<=12) (hr:∀ p∈l,wZ p):Inv CK LF B { s with plans:=l } :=
 { h with pS:=hs,pL:=hl,pR:=hr,cR:=fun c hc=>⟨(h.cR c hc).id,(h.cR c hc).size,(h.cR c hc).prio,(h.cR c hc).notice,(h.cR c hc).app,(h.cR c hc).node⟩ }
theorem aFP (h:Inv CK LF B s) (he:s.ep<2^20):Inv CK LF B { s with ep:=s.ep+1,sq:=0 }:=by
 have hep:=h.ep
 have hsq:=h.sq
 refine { h with aG:=fun a ha g hg=>?_,cR:=fun c hc=>?_,ep:=⟨by simp only;omega,by simp only;omega⟩,sq:=⟨by simp,by simp⟩ }
 · have:=h.aG a ha g hg
   simp only
   omega
 · obtain ⟨c1,c2,c3,c4,c5,c6⟩:=h.cR c hc
   exact ⟨⟨c1.1,by have:=c1.2;simp only;omega⟩,c2,c3,c4,c5,c6⟩
theorem aIR (h:Inv CK LF B s) {ls:List (List UInt8)} {qs:List Queue} (hc:CK ls qs) (hl:s.labels.length<=ls.length) (hlf:∀ a∈s.apps,live a=true->LF qs a.queue=true):Inv CK LF B { s with labels:=ls,qs:=qs } :=
 { h with ck:=hc,nR:=fun n hn=>(by have:=h.nR n hn;exact { this with label:=⟨this.label.1,by have:=this.label.2;simp only;omega⟩ }),aQ:=hlf,cR:=fun c hc=>⟨(h.cR c hc).id,(h.cR c hc).size,(h.cR c hc).prio,(h.cR c hc).notice,(h.cR c hc).app,(h.cR c hc).node⟩ }
end
section

variable {CK:List (List UInt8)->List Queue->Prop} {LF:List Queue->List UInt8->Bool} {B:Nat} {s:Sta}
def pN (a:Ask):Bool->List Ask->List Ask
 | d,[]=>if d then [] else [a]
 | d,y :: r=>(if !d&&decide (y.prio>a.prio) then [a] else [])++(if y.prio=a.prio then [] else [y])++pN a (d||decide (y.prio>a.prio)) r
theorem xD {a x:Ask}:∀ {l:List Ask} {d:Bool},x∈pN a d l->x∈l∨(x=a/\d=false)
 | [],d,h=>by
   unfold pN at h
   split at h
   · simp at h
   · rename_i hd
     exact .inr ⟨by simpa using h,by simpa using hd⟩
 | y :: r,d,h=>by
   unfold pN at h
   rcases List.mem_append.1 h with h|h
   · rcases List.mem_append.1 h with h|h
     · split at h
       · rename_i hc
         simp only [Bool.and_eq_true,Bool.not_eq_true',decide_eq_true_eq] at hc
         exact .inr ⟨by simpa using h,hc.1⟩
       · simp at h
     · split at h
       · simp at h
       · exact .inl (by simp at h;simp [h])
   · rcases xD h with h|⟨h,hd⟩
     · exact .inl (by simp [h])
     · exact .inr ⟨h,by cases d<;>simp_all⟩
def oE (l:List Ask) (a:Ask):List Ask:=pN { a with missed:=0 } (a.count==0) l
theorem aKU {l:List Ask} {a:Ask} (hl:∀ x∈l,jT x) (h1:0<=a.prio/\a.prio<=9) (h2:0<=a.label) (h3:okV a.mem a.cores) (h4:0<=a.count/\a.count<=50) (h5: -1<=a.node/\a.node<=999) (h6: -1<=a.rack/\a.rack<=99):∀ x∈oE l a,jT x:=by
 intro x hx
 rcases xD hx with hx|⟨rfl,hd⟩
 · exact hl x hx
 · have:a.count≠0:=by simpa using hd
   exact ⟨h1,h2,h3,by simp only;omega,h5,h6,by simp⟩
def yE (p:Int) (a:Ask):Ask:=if a.prio=p then { a with missed:=min (a.missed+1) 100 } else a
def fF (p:Int) (l:List Ask):List Ask:=l.map (yE p)
theorem aH0 {l:List Ask} {p:Int} (h:∀ x∈l,jT x):(fF p l).length=l.length/\∀ x∈fF p l,jT x:=by
 refine ⟨List.length_map _,fun x hx=>?_⟩
 obtain ⟨y,hy,rfl⟩:=List.mem_map.1 hx
 have h1:=h y hy
 unfold yE
 split
 · exact { h1 with missed:=by have:=h1.missed;simp only;omega }
 · exact h1
theorem yD (h:Inv CK LF B s) {a:App} (ha:a∈s.apps) (p:Int):Inv CK LF B (iJ s { a with asks:=fF p a.asks }):=by
 have hr:=h.aR a ha
 obtain ⟨t1,t2⟩:=aH0 (p:=p) hr.ask
 exact yS h ha rfl { hr with asks:=by rw [t1];exact hr.asks,ask:=t2 } (fun g hg=>h.aG a ha g hg) rfl rfl
def lY (app:Int) (q:Sta×List Int) (i:Int):Sta×List Int:=match gR i q.1.conts with
 | none=>q
 | some c=>if c.app==app&& !c.master then (mR q.1 c.id,q.2.filter fun g=>g !=c.id) else q
def pE (app:Int) (ids:List Int) (q:Sta×List Int):Sta×List Int:=ids.foldl (lY app) q
theorem zF (app:Int):∀ (ids:List Int) {q:Sta×List Int},Inv CK LF B q.1->Inv CK LF B (pE app ids q).1/\(pE app ids q).2.Sublist q.2/\(pE app ids q).1.apps=q.1.apps/\(pE app ids q).1.now=q.1.now/\(pE app ids q).1.ep=q.1.ep/\(pE app ids q).1.sq=q.1.sq/\(pE app ids q).1.labels=q.1.labels/\(pE app ids q).1.qs=q.1.qs
 | [],q,h=>⟨h,List.Sublist.refl _,rfl,rfl,rfl,rfl,rfl,rfl⟩
 | i :: ids,q,h=>by
   have key:Inv CK LF B (lY app q i).1/\(lY app q i).2.Sublist q.2/\(lY app q i).1.apps=q.1.apps/\(lY app q i).1.now=q.1.now/\(lY app q i).1.ep=q.1.ep/\(lY app q i).1.sq=q.1.sq/\(lY app q i).1.labels=q.1.labels/\(lY app q i).1.qs=q.1.qs:=by
    unfold lY
    cases hf:gR i q.1.conts with
    | none=>exact ⟨h,List.Sublist.refl _,rfl,rfl,rfl,rfl,rfl,rfl⟩
    | some c =>
      obtain ⟨hc,hci⟩:=qC hf
      simp only
      split
      · rename_i hcond
        simp only [Bool.and_eq_true,Bool.not_eq_true'] at hcond
        refine ⟨aJ8 h fun d hd he=>?_,List.filter_sublist,rfl,rfl,rfl,rfl,rfl,rfl⟩
        have:=gL h.cS hd hc he
        subst this
        exact hcond.2
      · exact ⟨h,List.Sublist.refl _,rfl,rfl,rfl,rfl,rfl,rfl⟩
   obtain ⟨k1,k2,k3,k4,k5,k6,k7,k8⟩:=key
   obtain ⟨g1,g2,g3,g4,g5,g6,g7,g8⟩:=zF app ids k1
   exact ⟨g1,g2.trans k2,g3.trans k3,g4.trans k4,g5.trans k5,g6.trans k6,g7.trans k7,g8.trans k8⟩
def mV (a:App) (l:List Ask) (g:List Int) (now b:Int):App:={ a with asks:=l,seen:=now,beat:=b,told:=g,lost:=a.kills,grants:=[],kills:=[] }
theorem aGw (h:Inv CK LF B s) {a:App} (ha:a∈s.apps) {l:List Ask} {g:List Int} {b:Int} (hl:l.length<=8) (hk:∀ x∈l,jT x) (hg:g.length<=B):Inv CK LF (B+1) (iJ s (mV a l g s.now b)):=by
 have hr:=(h.aR a ha).mono (B':=B+1) (by omega)
 have hn:=h.now
 refine yS (h.mono (by omega)) ha rfl ?_ (fun x hx=>by simp [mV] at hx) rfl rfl
 exact ⟨hr.id,hr.state,hr.queue,hr.user,hr.prio,hr.size,hl,hk,⟨hn.1,Int.le_refl _⟩,trivial,List.nodup_nil,Nat.zero_le _,Nat.zero_le _,by show g.length<=B+1;omega,hr.kl⟩
theorem aFK {ls:List (List UInt8)} {qs:List Queue} (hc:CK ls qs):Inv CK LF B ⟨ls,qs,[],[],[],[],[],0,0,0⟩ :=
 ⟨hc,List.Pairwise.nil,by simp,by simp,List.Pairwise.nil,by simp,by simp,by simp,by simp,List.Pairwise.nil,by simp,by simp,by simp,by simp,by simp,by simp,List.Pairwise.nil,by simp,List.Pairwise.nil,by simp,by simp,by simp,by simp,by simp⟩
end
section

variable {CK:List (List UInt8)->List Queue->Prop} {LF:List Queue->List UInt8->Bool} {B:Nat} {s:Sta}
theorem kM {id:Int}:∀ {l:List bD},(∀ c∈l,okV c.mem c.cores)->0<=(bR id l).1/\(bR id l).1<=2^30*(l.length:Int)/\0<=(bR id l).2/\(bR id l).2<=2^30*(l.length:Int)
 | [],_=>by simp [bR]
 | c :: l,h=>by
   have ih:=kM (id:=id) (l:=l) fun x hx=>h x (List.mem_cons_of_mem _ hx)
   obtain ⟨c1,c2,c3,c4⟩:=h c (by simp)
   have e:bR id (c :: l)=if c.node=id then (c.mem+(bR id l).1,c.cores+(bR id l).2) else bR id l:=by
    unfold bR
    rw [List.filter_cons]
    by_cases hc:c.node=id
    · rw [if_pos hc,if_pos (by simp [hc])]
      simp
    · rw [if_neg hc,if_neg (by simp [hc])]
   rw [e]
   simp only [List.length_cons]
   split
   · simp only;omega
   · omega
def eY (id:Int) (s:Sta):Int×Int:=match eH id s.nodes with
 | none=>(0,0)
 | some n=>if n.up then (max (n.mem-(bR id s.conts).1) 0,max (n.cores-(bR id s.conts).2) 0) else (0,0)
theorem y5 {l:List Node} (hs:Srt Node.id l) {a:Node} (h:a∈l):eH a.id l=some a:=by
 unfold eH
 cases hf:l.find? fun x=>x.id==a.id with
 | none=>exact absurd (List.find?_eq_none.1 hf a h) (by simp)
 | some b =>
   have h1:=List.mem_of_find?_eq_some hf
   have h2:b.id=a.id:=by simpa using List.find?_some hf
   rw [gL hs h1 h h2]
theorem bIf {l:List bD} (hs:Srt bD.id l) {a:bD} (h:a∈l):gR a.id l=some a:=by
 unfold gR
 cases hf:l.find? fun x=>x.id==a.id with
 | none=>exact absurd (List.find?_eq_none.1 hf a h) (by simp)
 | some b =>
   have h1:=List.mem_of_find?_eq_some hf
   have h2:b.id=a.id:=by simpa using List.find?_some hf
   rw [gL hs h1 h h2]
theorem o7 (h:Inv CK LF B s) {n:Node} (hn:n∈s.nodes):(n.up=true->(bR n.id s.conts).1+(eY n.id s).1=n.mem/\(bR n.id s.conts).2+(eY n.id s).2=n.cores)/\(n.up=false->bR n.id s.conts=(0,0)/\eY n.id s=(0,0)):=by
 have hf:=y5 h.nS hn
 have hfit:=h.fit n hn
 refine ⟨fun hu=>?_,fun hu=>?_⟩
 · unfold eY
   rw [hf]
   simp only [hu,if_true]
   omega
 · obtain ⟨h1,_⟩:=yA h (id:=n.id) fun m hm he=>by
    have:=gL h.nS hm hn he
    subst this
    exact hu
   refine ⟨pI h1,?_⟩
   unfold eY
   rw [hf]
   simp [hu]
theorem bYz (h:Inv CK LF B s) {c:bD} (hc:c∈s.conts) (hm:c.master=true) {a:App} (ha:dP c.app s.apps=some a) :
 fG s [c.id,c.id]=uT (iJ s (fJ a s.now)) c.app:=by
 have e:dX s c.id=uT (iJ s (fJ a s.now)) c.app:=by
  unfold dX
  rw [bIf h.cS hc]
  simp only [ha,Option.getD_some,hm,if_true]
 have e2:dX (dX s c.id) c.id=dX s c.id:=by
  have:=(yJ s h.cS c.id).1
  unfold dX
  cases hf:gR c.id (dX s c.id).conts with
  | none =>
    unfold dX at hf
    rw [hf]
  | some d =>
    obtain ⟨hd,hde⟩:=qC hf
    exact absurd hde (this d hd).2
 show dX (dX s c.id) c.id=_
 rw [e2,e]
end
section

variable {CK:List (List UInt8)->List Queue->Prop} {LF:List Queue->List UInt8->Bool} {B:Nat} {s:Sta}
theorem bId {l:List App} (hs:Srt App.id l) (b:App):dP b.id (eE App.id b l)=some b:=tI (iI hs) mW
theorem b8U (h:Inv CK LF B s) {a:App} (ha:a∈s.apps) (hl:live a=true) (st:Int) (hst:st=3∨st=4) :
 wN s a.id st=uT (iJ s (gD a st)) a.id/\aAM s a.id=(s.conts.filter fun c=>c.app==a.id).map bD.id/\dP a.id (wN s a.id st).apps=some (gD a st)/\wN (wN s a.id st) a.id st=wN s a.id st/\aAM (wN s a.id st) a.id=[]/\live (gD a st)=false:=by
 have hf:=tI h.aS ha
 have e1:wN s a.id st=uT (iJ s (gD a st)) a.id:=by
  unfold wN
  rw [hf]
  simp only [hl,if_true]
 have e2:aAM s a.id=(s.conts.filter fun c=>c.app==a.id).map bD.id:=by
  unfold aAM
  rw [hf]
  simp only [hl,if_true]
  rfl
 have hlf:live (gD a st)=false:=by unfold live gD;rcases hst with rfl|rfl<;>rfl
 have e3:dP a.id (wN s a.id st).apps=some (gD a st):=by
  rw [e1]
  exact bId h.aS (gD a st)
 refine ⟨e1,e2,e3,?_,?_,hlf⟩
 · generalize wN s a.id st=u at e3
   unfold wN
   rw [e3]
   simp only [hlf]
   rfl
 · generalize wN s a.id st=u at e3
   unfold aAM
   rw [e3]
   simp only [hlf]
   rfl
theorem b2t (h:Inv CK LF B s) {c:bD} (hc:c∈s.conts) (hm:c.master=false) {a:App} (ha:dP c.app s.apps=some a) :
 fG s [c.id,c.id]=iJ (mR s c.id) (eV a c.id)/\a.state=2/\dP c.app (fG s [c.id,c.id]).apps=some (eV a c.id)/\(eV a c.id).state=2 /\
  (a.grants.contains c.id=false->(eV a c.id).kills=a.kills++[c.id]/\(eV a c.id).grants=a.grants)/\(a.grants.contains c.id=true->(eV a c.id).kills=a.kills/\(eV a c.id).grants.length+1=a.grants.length):=by
 obtain ⟨haa,hae⟩:=jG ha
 have e:dX s c.id=iJ (mR s c.id) (eV a c.id):=by
  unfold dX
  rw [bIf h.cS hc]
  simp only [ha,Option.getD_some,hm]
  rfl
 have e2:dX (dX s c.id) c.id=dX s c.id:=by
  have:=(yJ s h.cS c.id).1
  generalize dX s c.id=u at this
  unfold dX
  cases hf:gR c.id u.conts with
  | none=>rfl
  | some d =>
    obtain ⟨hd,hde⟩:=qC hf
    exact absurd hde (this d hd).2
 have hst:a.state=2:=by
  obtain ⟨y,hy,hye,hyl⟩:=(h.cR c hc).app
  have:=gL h.aS hy haa (hye.trans hae.symm)
  subst this
  have h1:=h.m0 y haa
  by_cases hs1:y.state=1
  · exact absurd hae.symm (h1 hs1 c hc)
  · unfold live at hyl
    simp only [Bool.or_eq_true,beq_iff_eq] at hyl
    omega
 obtain ⟨g1,g2,g3⟩:=aAt (a:=a) (i:=c.id)
 have e3:fG s [c.id,c.id]=iJ (mR s c.id) (eV a c.id):=by
  show dX (dX s c.id) c.id=_
  rw [e2,e]
 refine ⟨e3,hst,?_,g2.trans hst,fun hg=>?_,fun hg=>?_⟩
 · rw [e3]
   have:=bId h.aS (eV a c.id)
   rw [g1,hae] at this
   exact this
 · unfold eV
   rw [hg]
   exact ⟨rfl,rfl⟩
 · unfold eV
   rw [hg]
   refine ⟨rfl,?_⟩
   have hn:=(h.aR a haa).gn
   have hmem:c.id∈a.grants:=by simpa using hg
   show (a.grants.filter fun g=>g !=c.id).length+1=a.grants.length
   generalize a.grants=l at hn hmem
   induction l with
   | nil=>simp at hmem
   | cons x r ih =>
     have h1:=List.nodup_cons.1 hn
     rcases List.mem_cons.1 hmem with hx|hx
     · have:r.filter (fun g=>g !=c.id)=r:=List.filter_eq_self.2 fun y hy=>by
        have:y≠c.id:=fun he=>h1.1 (by rw [<- hx,<- he];exact hy)
        simpa using this
       rw [List.filter_cons,if_neg (by simp [hx]),this]
       rfl
     · have hne:x≠c.id:=fun he=>h1.1 (by rw [he];exact hx)
       rw [List.filter_cons,if_pos (by simpa using hne),List.length_cons,List.length_cons,ih h1.2 hx]
end
end Go.Proofs.YtakemdamegfcfaaGreat
