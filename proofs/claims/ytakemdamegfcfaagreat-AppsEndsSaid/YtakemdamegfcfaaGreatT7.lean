/- A part of a proof: what states are. No condition. -/
set_option linter.unusedSimpArgs false
set_option linter.unusedVariables false
namespace Go.Proofs.YtakemdamegfcfaaGreat
structure Node where
 id:Int
 label:Int
 rack:Int
 mem:Int
 cores:Int
 seen:Int
 beat:Int
 up:Bool
 deriving DecidableEq,Inhabited
structure Cap where
 least:Int
 most:Int
 deriving DecidableEq,Inhabited
structure Queue where
 path:List UInt8
 caps:List Cap
 user:Int
 deriving DecidableEq,Inhabited
structure Ask where
 prio:Int
 label:Int
 mem:Int
 cores:Int
 count:Int
 node:Int
 rack:Int
 missed:Int
 deriving DecidableEq,Inhabited
structure App where
 id:Int
 state:Int
 queue:List UInt8
 user:Int
 prio:Int
 mem:Int
 cores:Int
 asks:List Ask
 seen:Int
 beat:Int
 grants:List Int
 kills:List Int
 told:List Int
 lost:List Int
 deriving DecidableEq,Inhabited
structure bD where
 id:Int
 app:Int
 node:Int
 mem:Int
 cores:Int
 prio:Int
 label:Int
 master:Bool
 notice:Int
 deriving DecidableEq,Inhabited
structure dY where
 node:Int
 app:Int
 prio:Int
 deriving DecidableEq,Inhabited
structure dR where
 id:Int
 label:Int
 frm:Int
 til:Int
 mem:Int
 cores:Int
 deriving DecidableEq,Inhabited
structure Sta where
 labels:List (List UInt8)
 qs:List Queue
 nodes:List Node
 apps:List App
 conts:List bD
 slots:List dY
 plans:List dR
 now:Int
 ep:Int
 sq:Int
 deriving Inhabited
def eE {α:Type} (key:α->Int) (n:α):List α->List α
 | []=>[n]
 | x :: r=>if key x<key n then x :: eE key n r else if key x=key n then n :: r else n :: x :: r
def gH {α:Type} (key:α->Int) (n:α):List α->List α
 | []=>[n]
 | x :: r=>if key x<key n then x :: gH key n r else n :: x :: r
def Srt {α:Type} (key:α->Int) (l:List α):Prop:=l.Pairwise fun a b=>key a<key b
theorem mF {α:Type} {key:α->Int} {n:α}:∀ {l:List α} {x:α},x∈eE key n l->x=n∨x∈l
 | [],x,h=>by simp [eE] at h;exact .inl h
 | y :: r,x,h=>by
   unfold eE at h
   split at h
   · rcases List.mem_cons.1 h with h|h
     · exact .inr (by simp [h])
     · rcases mF h with h|h
       · exact .inl h
       · exact .inr (by simp [h])
   · split at h
     · rcases List.mem_cons.1 h with h|h
       · exact .inl h
       · exact .inr (by simp [h])
     · rcases List.mem_cons.1 h with h|h
       · exact .inl h
       · exact .inr h
theorem iI {α:Type} {key:α->Int} {n:α}:∀ {l:List α},Srt key l->Srt key (eE key n l)
 | [],_=>by simp [eE,Srt]
 | y :: r,h=>by
   have h1:=List.pairwise_cons.1 h
   unfold eE
   split
   · refine List.pairwise_cons.2 ⟨fun z hz=>?_,iI h1.2⟩
     rcases mF hz with rfl|hz
     · assumption
     · exact h1.1 z hz
   · split
     · rename_i h2 h3
       exact List.pairwise_cons.2 ⟨fun z hz=>by have:=h1.1 z hz;omega,h1.2⟩
     · rename_i h2 h3
       refine List.pairwise_cons.2 ⟨fun z hz=>?_,h⟩
       rcases List.mem_cons.1 hz with rfl|hz
       · omega
       · have:=h1.1 z hz;omega
theorem mW {α:Type} {key:α->Int} {n:α}:∀ {l:List α},n∈eE key n l
 | []=>by simp [eE]
 | y :: r=>by
   unfold eE
   split
   · exact List.mem_cons_of_mem _ mW
   · split<;>simp
theorem nY {α:Type} {key:α->Int} {n x:α}:∀ {l:List α},x∈l->key x≠key n->x∈eE key n l
 | y :: r,h,hne=>by
   unfold eE
   split
   · rcases List.mem_cons.1 h with rfl|h
     · simp
     · exact List.mem_cons_of_mem _ (nY h hne)
   · split
     · rename_i h2 h3
       rcases List.mem_cons.1 h with rfl|h
       · exact absurd h3 hne
       · simp [h]
     · exact List.mem_cons_of_mem _ h
theorem iZ {α:Type} {key:α->Int} {n x:α} {l:List α} (hs:Srt key l):x∈eE key n l↔x=n∨(x∈l/\key x≠key n):=by
 constructor
 · intro h
   rcases mF h with h1|h1
   · exact .inl h1
   · by_cases hk:key x=key n
     ·
      have hs2:=iI (n:=n) hs
      left
      have h2:=mW (key:=key) (n:=n) (l:=l)
      obtain ⟨i,hi,rfl⟩:=List.getElem_of_mem h
      obtain ⟨j,hj,he⟩:=List.getElem_of_mem h2
      have hp:=List.pairwise_iff_getElem.1 hs2
      rcases Nat.lt_trichotomy i j with h3|h3|h3
      · have:=hp i j hi hj h3;rw [he] at this;omega
      · subst h3;exact he
      · have:=hp j i hj hi h3;rw [he] at this;omega
     · exact .inr ⟨h1,hk⟩
 · rintro (rfl|⟨h1,h2⟩)
   · exact mW
   · exact nY h1 h2
theorem gL {α:Type} {key:α->Int} {l:List α} (hs:Srt key l) {x y:α} (hx:x∈l) (hy:y∈l) (h:key x=key y):x=y:=by
 obtain ⟨i,hi,rfl⟩:=List.getElem_of_mem hx
 obtain ⟨j,hj,rfl⟩:=List.getElem_of_mem hy
 have hp:=List.pairwise_iff_getElem.1 hs
 rcases Nat.lt_trichotomy i j with h3|h3|h3
 · have:=hp i j hi hj h3;omega
 · subst h3;rfl
 · have:=hp j i hj hi h3;omega
theorem rR {α:Type} {key:α->Int} {n:α}:∀ {l:List α},(∀ x∈l,key x≠key n)->gH key n l=eE key n l
 | [],_=>rfl
 | y :: r,h=>by
   unfold gH eE
   split
   · rw [rR fun x hx=>h x (by simp [hx])]
   · rw [if_neg (h y (by simp))]
section

def live (a:App):Bool:=a.state==1||a.state==2
def bR (id:Int) (l:List bD):Int×Int:=(((l.filter fun c=>c.node==id).map bD.mem).sum,((l.filter fun c=>c.node==id).map bD.cores).sum)
def jM (s:Sta) (n:Node):Sta:={ s with nodes:=eE Node.id n s.nodes }
def iJ (s:Sta) (a:App):Sta:={ s with apps:=eE App.id a s.apps }
def uT (s:Sta) (id:Int):Sta:={ s with conts:=s.conts.filter fun c=>c.app !=id,slots:=s.slots.filter fun x=>x.app !=id }
def aBv (s:Sta) (id:Int):List Int:=(s.conts.filter fun c=>c.app==id).map bD.id
def mR (s:Sta) (id:Int):Sta:={ s with conts:=s.conts.filter fun c=>c.id !=id }
def mM (a:App):List Ask:=[⟨0,0,a.mem,a.cores,1,-1,-1,0⟩]
def dP (id:Int) (l:List App):Option App:=l.find? fun a=>a.id==id
def eH (id:Int) (l:List Node):Option Node:=l.find? fun a=>a.id==id
def gR (id:Int) (l:List bD):Option bD:=l.find? fun a=>a.id==id
def gI:App:=⟨0,0,[],0,0,0,0,[],0,0,[],[],[],[]⟩
def gD (a:App) (st:Int):App:={ a with state:=st,asks:=[],grants:=[],kills:=[],told:=[],lost:=[] }
def wN (s:Sta) (id st:Int):Sta:=match dP id s.apps with
 | none=>s
 | some a=>if live a then uT (iJ s (gD a st)) id else s
def aAM (s:Sta) (id:Int):List Int:=match dP id s.apps with
 | none=>[]
 | some a=>if live a then aBv s id else []
def fJ (a:App) (now:Int):App:={ a with state:=1,asks:=mM a,grants:=[],kills:=[],told:=[],lost:=[],beat:=0,seen:=now }
def eV (a:App) (id:Int):App:=if a.grants.contains id then { a with grants:=a.grants.filter fun g=>g !=id } else { a with kills:=a.kills++[id] }
def dX (s:Sta) (i:Int):Sta:=match gR i s.conts with
 | none=>s
 | some c =>
   let a:=(dP c.app s.apps).getD gI
   if c.master then uT (iJ s (fJ a s.now)) c.app else iJ (mR s c.id) (eV a c.id)
def fG (s:Sta) (ids:List Int):Sta:=ids.foldl dX s
def okV (m c:Int):Prop:=1<=m/\m<=2^30/\1<=c/\c<=2^30
structure jT (x:Ask):Prop where
 prio:0<=x.prio/\x.prio<=9
 label:0<=x.label
 size:okV x.mem x.cores
 count:1<=x.count/\x.count<=50
 node: -1<=x.node/\x.node<=999
 rack: -1<=x.rack/\x.rack<=99
 missed:0<=x.missed/\x.missed<=100
structure iV (B:Nat) (now:Int) (a:App):Prop where
 id:0<=a.id/\a.id<=8999
 state:1<=a.state/\a.state<=4
 queue:a.queue.length<=60
 user:0<=a.user/\a.user<=99
 prio:0<=a.prio/\a.prio<=9
 size:okV a.mem a.cores
 asks:a.asks.length<=8
 ask:∀ x∈a.asks,jT x
 seen:0<=a.seen/\a.seen<=now
 beat:True
 gn:a.grants.Nodup
 gl:a.grants.length<=B
 kl:a.kills.length<=B
 tl:a.told.length<=B
 ll:a.lost.length<=B
structure mS (B:Nat) (nl:Nat) (now:Int) (n:Node):Prop where
 id:0<=n.id/\n.id<=999
 label:0<=n.label/\n.label<nl
 rack:0<=n.rack/\n.rack<=99
 mem:0<=n.mem/\n.mem<=2^30
 cores:0<=n.cores/\n.cores<=2^30
 seen:0<=n.seen/\n.seen<=now
 beat:True
structure aUa (s:Sta) (c:bD):Prop where
 id:1<=c.id/\c.id<=s.ep*2^20+s.sq
 size:okV c.mem c.cores
 prio:0<=c.prio/\c.prio<=9
 notice:0<=c.notice/\(c.notice<=s.now∨c.notice<=1)
 app:∃ a∈s.apps,a.id=c.app/\live a=true
 node:∃ n∈s.nodes,n.id=c.node/\n.up=true/\n.label=c.label
structure wZ (p:dR):Prop where
 mem:0<=p.mem/\p.mem<=2^30
 cores:0<=p.cores/\p.cores<=2^30
structure Inv (CK:List (List UInt8)->List Queue->Prop) (LF:List Queue->List UInt8->Bool) (B:Nat) (s:Sta):Prop where
 ck:CK s.labels s.qs
 nS:Srt Node.id s.nodes
 nL:s.nodes.length<=12
 nR:∀ n∈s.nodes,mS B s.labels.length s.now n
 aS:Srt App.id s.apps
 aL:s.apps.length<=16
 aR:∀ a∈s.apps,iV B s.now a
 aQ:∀ a∈s.apps,live a=true->LF s.qs a.queue=true
 aG:∀ a∈s.apps,∀ g∈a.grants,g<=s.ep*2^20+s.sq
 cS:Srt bD.id s.conts
 cL:s.conts.length<=200
 cR:∀ c∈s.conts,aUa s c
 fit:∀ n∈s.nodes,(bR n.id s.conts).1<=n.mem/\(bR n.id s.conts).2<=n.cores
 m1:∀ a∈s.apps,a.state=2->∃ c∈s.conts,c.app=a.id/\c.master=true
 m2:∀ c∈s.conts,∀ d∈s.conts,c.app=d.app->c.master=true->d.master=true->c=d
 m0:∀ a∈s.apps,a.state=1->∀ c∈s.conts,c.app≠a.id
 sS:Srt dY.node s.slots
 sR:∀ x∈s.slots,∃ n∈s.nodes,n.id=x.node/\n.up=true
 pS:Srt dR.id s.plans
 pL:s.plans.length<=12
 pR:∀ p∈s.plans,wZ p
 now:0<=s.now/\s.now<=1000000000
 ep:0<=s.ep/\s.ep<=2^20
 sq:0<=s.sq/\s.sq<2^20
variable {CK:List (List UInt8)->List Queue->Prop} {LF:List Queue->List UInt8->Bool} {B:Nat} {s:Sta}
theorem fD {α:Type} {key:α->Int} {l:List α} {p:α->Bool} (h:Srt key l):Srt key (l.filter p):=List.Pairwise.filter p h
theorem nN {l:List bD} {p:bD->Bool} {f:bD->Int} (h:∀ c∈l,0<=f c):((l.filter p).map f).sum<=(l.map f).sum/\0<=((l.filter p).map f).sum:=by
 induction l with
 | nil=>simp
 | cons c l ih =>
   have h1:=ih fun x hx=>h x (by simp [hx])
   have h2:=h c (by simp)
   rw [List.filter_cons]
   split
   · simp only [List.map_cons,List.sum_cons];omega
   · simp only [List.map_cons,List.sum_cons];omega
theorem qM {l:List bD} {p:bD->Bool} (id:Int) (h:∀ c∈l,okV c.mem c.cores):(bR id (l.filter p)).1<=(bR id l).1/\(bR id (l.filter p)).2<=(bR id l).2:=by
 unfold bR
 have e:(l.filter p).filter (fun c=>c.node==id)=(l.filter fun c=>c.node==id).filter p:=by
  rw [List.filter_filter,List.filter_filter]
  congr 1
  funext x
  rw [Bool.and_comm]
 rw [e]
 exact ⟨(nN fun c hc=>by have:=(h c (List.mem_filter.1 hc).1).1;omega).1,(nN fun c hc=>by have:=(h c (List.mem_filter.1 hc).1).2.2.1;omega).1⟩
theorem jG {id:Int} {l:List App} {a:App} (h:dP id l=some a):a∈l/\a.id=id:=by
 unfold dP at h
 exact ⟨List.mem_of_find?_eq_some h,by simpa using List.find?_some h⟩
theorem qC {id:Int} {l:List bD} {a:bD} (h:gR id l=some a):a∈l/\a.id=id:=by
 unfold gR at h
 exact ⟨List.mem_of_find?_eq_some h,by simpa using List.find?_some h⟩
theorem gG {id:Int} {l:List Node} {a:Node} (h:eH id l=some a):a∈l/\a.id=id:=by
 unfold eH at h
 exact ⟨List.mem_of_find?_eq_some h,by simpa using List.find?_some h⟩
theorem tI {l:List App} (hs:Srt App.id l) {a:App} (h:a∈l):dP a.id l=some a:=by
 unfold dP
 cases hf:l.find? fun x=>x.id==a.id with
 | none=>exact absurd (List.find?_eq_none.1 hf a h) (by simp)
 | some b =>
   have h1:=List.mem_of_find?_eq_some hf
   have h2:b.id=a.id:=by simpa using List.find?_some hf
   rw [gL hs h1 h h2]
theorem xR {s:Sta} {a b:App} (hs:Srt App.id s.apps) (hb:b∈s.apps) (he:b.id=a.id):(iJ s a).apps.length=s.apps.length:=by
 show (eE App.id a s.apps).length=s.apps.length
 generalize s.apps=l at hs hb
 induction l with
 | nil=>simp at hb
 | cons y r ih =>
   have h1:=List.pairwise_cons.1 hs
   unfold eE
   rcases List.mem_cons.1 hb with rfl|hb
   · rw [if_neg (by omega),if_pos he]
     rfl
   · have:=h1.1 b hb
     rw [if_pos (by omega),List.length_cons,List.length_cons,ih h1.2 hb]
theorem rQ (h:Inv CK LF B s) {a b:App} (ha:a∈s.apps) (hid:b.id=a.id) (hb:iV B s.now b) (hg:∀ g∈b.grants,g<=s.ep*2^20+s.sq) (hq:live b=true->live a=true/\b.queue=a.queue) {p:bD->Bool} {q:dY->Bool}
 (hp:∀ c∈s.conts,p c=true->c.app=a.id->live b=true)
 (h1:b.state=2->∃ c∈s.conts,c.app=a.id/\c.master=true/\p c=true) (h0:b.state=1->∀ c∈s.conts,p c=true->c.app≠a.id)
 (hm:∀ x∈s.apps,x.id≠a.id->x.state=2->∀ c∈s.conts,c.app=x.id->c.master=true->p c=true) :
 Inv CK LF B { s with apps:=eE App.id b s.apps,conts:=s.conts.filter p,slots:=s.slots.filter q }:=by
 have hiff:∀ x,x∈eE App.id b s.apps↔x=b∨(x∈s.apps/\x.id≠b.id):=fun x=>iZ h.aS
 refine ⟨h.ck,h.nS,h.nL,h.nR,iI h.aS,?_,fun x hx=>?_,fun x hx hl=>?_,fun x hx=>?_,fD h.cS,Nat.le_trans (List.length_filter_le _ _) h.cL,fun c hc=>?_,fun n hn=>?_,fun x hx hst=>?_,fun c hc d hd=>?_,fun x hx hst c hc=>?_,fD h.sS,fun x hx=>h.sR x (List.mem_filter.1 hx).1,h.pS,h.pL,h.pR,h.now,h.ep,h.sq⟩
 · exact (xR (s:=s) h.aS ha hid.symm) ▸ h.aL
 · rcases (hiff x).1 hx with rfl|⟨hx,_⟩
   · exact hb
   · exact h.aR x hx
 · rcases (hiff x).1 hx with rfl|⟨hx,_⟩
   · obtain ⟨hla,hqe⟩:=hq hl
     rw [hqe]
     exact h.aQ a ha hla
   · exact h.aQ x hx hl
 · rcases (hiff x).1 hx with rfl|⟨hx,_⟩
   · exact hg
   · exact h.aG x hx
 · obtain ⟨hc,hpc⟩:=List.mem_filter.1 hc
   obtain ⟨c1,c2,c3,c4,⟨y,hy,hye,hyl⟩,c6⟩:=h.cR c hc
   refine ⟨c1,c2,c3,c4,?_,c6⟩
   by_cases hya:y.id=a.id
   · exact ⟨b,(hiff b).2 (.inl rfl),by rw [hid,<- hya,hye],hp c hc hpc (by rw [<- hye,hya])⟩
   · exact ⟨y,(hiff y).2 (.inr ⟨hy,by rw [hid];exact hya⟩),hye,hyl⟩
 · have:=qM (p:=p) n.id fun c hc=>(h.cR c hc).size
   have:=h.fit n hn
   simp only
   omega
 · rcases (hiff x).1 hx with rfl|⟨hx,hne⟩
   · obtain ⟨c,hc,hca,hcm,hcp⟩:=h1 hst
     exact ⟨c,List.mem_filter.2 ⟨hc,hcp⟩,by rw [hid];exact hca,hcm⟩
   · obtain ⟨c,hc,hca,hcm⟩:=h.m1 x hx hst
     exact ⟨c,List.mem_filter.2 ⟨hc,hm x hx (by rw [hid] at hne;exact hne) hst c hc hca hcm⟩,hca,hcm⟩
 · exact h.m2 c (List.mem_filter.1 hc).1 d (List.mem_filter.1 hd).1
 · obtain ⟨hcs,hpc⟩:=List.mem_filter.1 hc
   rcases (hiff x).1 hx with rfl|⟨hx,hne⟩
   · rw [hid]
     exact h0 hst c hcs hpc
   · exact h.m0 x hx hst c hcs
theorem zT {a:App} (h:iV B s.now a) (hn:0<=s.now):iV B s.now (fJ a s.now):=by
 refine ⟨h.id,by simp [fJ],h.queue,h.user,h.prio,h.size,by simp [fJ,mM],fun x hx=>?_,⟨hn,Int.le_refl _⟩,trivial,List.nodup_nil,Nat.zero_le _,Nat.zero_le _,Nat.zero_le _,Nat.zero_le _⟩
 simp only [fJ,mM,List.mem_singleton] at hx
 subst hx
 exact ⟨by simp,by simp,h.size,by simp,by simp,by simp,by simp⟩
theorem iV.mono {B B':Nat} {now:Int} {a:App} (h:iV B now a) (hb:B<=B'):iV B' now a :=
 ⟨h.id,h.state,h.queue,h.user,h.prio,h.size,h.asks,h.ask,h.seen,trivial,h.gn,by have:=h.gl;omega,by have:=h.kl;omega,by have:=h.tl;omega,by have:=h.ll;omega⟩
theorem mS.mono {B B' nl:Nat} {now:Int} {a:Node} (h:mS B nl now a) (hb:B<=B'):mS B' nl now a :=
 ⟨h.id,h.label,h.rack,h.mem,h.cores,h.seen,trivial⟩
theorem Inv.mono {B B':Nat} (h:Inv CK LF B s) (hb:B<=B'):Inv CK LF B' s :=
 { h with nR:=fun n hn=>(h.nR n hn).mono hb,aR:=fun a ha=>(h.aR a ha).mono hb }
theorem aAs {a:App} {i:Int} (h:iV B s.now a):iV (B+1) s.now (eV a i):=by
 unfold eV
 split
 · have h2:=h.mono (B':=B+1) (by omega)
   exact { h2 with gn:=h.gn.filter _,gl:=Nat.le_trans (List.length_filter_le _ _) h2.gl }
 · have h2:=h.mono (B':=B+1) (by omega)
   exact { h2 with kl:=by have:=h.kl;simp only [List.length_append,List.length_cons,List.length_nil];omega }
theorem aAt {a:App} {i:Int}:(eV a i).id=a.id/\(eV a i).state=a.state/\(eV a i).queue=a.queue:=by
 unfold eV
 split<;>exact ⟨rfl,rfl,rfl⟩
theorem aAu {a:App} {i g:Int} (h:g∈(eV a i).grants):g∈a.grants:=by
 unfold eV at h
 split at h
 · exact (List.mem_filter.1 h).1
 · exact h
theorem aFm (h:Inv CK LF B s) (i:Int):Inv CK LF (B+1) (dX s i):=by
 unfold dX
 cases hf:gR i s.conts with
 | none=>exact h.mono (by omega)
 | some c =>
   obtain ⟨hc,hci⟩:=qC hf
   have hco:=h.cR c hc
   obtain ⟨a,ha,hae,hal⟩:=hco.app
   have hfa:dP c.app s.apps=some a:=by rw [<- hae];exact tI h.aS ha
   simp only [hfa,Option.getD_some]
   split
   · rename_i hm
     have key:=rQ (s:=s) (h.mono (B':=B+1) (by omega)) (a:=a) (b:=fJ a s.now) (p:=fun x=>x.app !=c.app) (q:=fun x=>x.app !=c.app) ha rfl (zT ((h.aR a ha).mono (by omega)) h.now.1) (fun g hg=>by simp [fJ] at hg)
      (fun _=>⟨hal,rfl⟩) (fun _ _ _ _=>by simp [live,fJ]) (fun hst=>by simp [fJ] at hst) (fun _ x hx hp=>by
        have:x.app≠c.app:=by simpa using hp
        rw [hae];exact this) (fun x hx hne _ d hd hdx _=>by
        have:d.app≠c.app:=by rw [hdx,<- hae];exact hne
        simpa using this)
     exact key
   · rename_i hm
     have hst:a.state=2:=by
      have h1:=h.m0 a ha
      by_cases hs1:a.state=1
      · exact absurd hae.symm (h1 hs1 c hc)
      · unfold live at hal
        simp only [Bool.or_eq_true,beq_iff_eq] at hal
        omega
     obtain ⟨e1,e2,e3⟩:=aAt (a:=a) (i:=c.id)
     have key:=rQ (s:=s) (h.mono (B':=B+1) (by omega)) (a:=a) (b:=eV a c.id) (p:=fun x=>x.id !=c.id) (q:=fun _=>true) ha e1 (aAs (h.aR a ha)) (fun g hg=>h.aG a ha g (aAu hg))
      (fun _=>⟨hal,e3⟩) (fun _ _ _ _=>by unfold live;rw [e2,hst];rfl) (fun _=>by
        obtain ⟨d,hd,hda,hdm⟩:=h.m1 a ha hst
        refine ⟨d,hd,hda,hdm,?_⟩
        have:d.id≠c.id:=fun he=>by
         have:=gL h.cS hd hc he
         subst this
         exact hm hdm
        simpa using this) (fun hs1=>by rw [e2,hst] at hs1;cases hs1) (fun x hx hne hsx d hd hdx hdm=>by
        have:d.id≠c.id:=fun he=>by
         have:=gL h.cS hd hc he
         subst this
         exact hm hdm
        simpa using this)
     have e5:s.slots.filter (fun _=>true)=s.slots:=List.filter_eq_self.2 fun _ _=>rfl
     rw [e5] at key
     exact key
theorem jN:∀ (ids:List Int) {B:Nat} {s:Sta},Inv CK LF B s->Inv CK LF (B+ids.length) (fG s ids)
 | [],_,_,h=>h
 | i :: ids,B,s,h=>by
   have:=jN ids (aFm h i)
   rw [show B+1+ids.length=B+(i :: ids).length by simp;omega] at this
   exact this
end
section

variable {CK:List (List UInt8)->List Queue->Prop} {LF:List Queue->List UInt8->Bool} {B:Nat} {s:Sta}
theorem filter_all {α:Type} {l:List α}:l.filter (fun _=>true)=l:=List.filter_eq_self.2 fun _ _=>rfl
theorem yS (h:Inv CK LF B s) {a b:App} (ha:a∈s.apps) (hid:b.id=a.id) (hb:iV B s.now b) (hg:∀ g∈b.grants,g<=s.ep*2^20+s.sq) (hst:b.state=a.state) (hq:b.queue=a.queue):Inv CK LF B (iJ s b):=by
 have hl:live b=live a:=by unfold live;rw [hst]
 have key:=rQ (s:=s) h (a:=a) (b:=b) (p:=fun _=>true) (q:=fun _=>true) ha hid hb hg (fun hx=>⟨by rw [<- hl];exact hx,hq⟩) (fun c hc _ hca=>by
  obtain ⟨y,hy,hye,hyl⟩:=(h.cR c hc).app
  have:=gL h.aS hy ha (by rw [hye,hca])
  subst this
  rw [hl];exact hyl) (fun h2=>by
  obtain ⟨c,hc,h3,h4⟩:=h.m1 a ha (by rw [<- hst];exact h2)
  exact ⟨c,hc,h3,h4,rfl⟩) (fun h1 c hc _=>h.m0 a ha (by rw [<- hst];exact h1) c hc) (fun _ _ _ _ _ _ _ _=>rfl)
 rw [filter_all,filter_all] at key
 exact key
theorem aFQ {a:App} {st:Int} (h:iV B s.now a) (hs:st=3∨st=4):iV B s.now (gD a st) :=
 ⟨h.id,by simp only [gD];omega,h.queue,h.user,h.prio,h.size,by simp [gD],by simp [gD],h.seen,h.beat,List.nodup_nil,Nat.zero_le _,Nat.zero_le _,Nat.zero_le _,Nat.zero_le _⟩
theorem aIC (h:Inv CK LF B s) (id st:Int) (hs:st=3∨st=4):Inv CK LF B (wN s id st):=by
 unfold wN
 cases hf:dP id s.apps with
 | none=>exact h
 | some a =>
   obtain ⟨ha,hae⟩:=jG hf
   simp only
   split
   · have hl:live (gD a st)=false:=by unfold live gD;rcases hs with rfl|rfl<;>rfl
     have key:=rQ (s:=s) h (a:=a) (b:=gD a st) (p:=fun x=>x.app !=id) (q:=fun x=>x.app !=id) ha rfl (aFQ (h.aR a ha) hs) (fun g hg=>by simp [gD] at hg)
      (fun hx=>by rw [hl] at hx;cases hx) (fun c hc hp hca=>by
        have:c.app≠id:=by simpa using hp
        exact absurd (hca.trans hae) this) (fun h2=>by simp only [gD] at h2;omega) (fun h1=>by simp only [gD] at h1;omega) (fun x hx hne _ d hd hdx _=>by
        have:d.app≠id:=by rw [hdx,<- hae];exact hne
        simpa using this)
     exact key
   · exact h
theorem mD {α:Type} {key:α->Int} {n:α}:∀ {l:List α},(eE key n l).length<=l.length+1
 | []=>by simp [eE]
 | y :: r=>by
   have:=mD (key:=key) (n:=n) (l:=r)
   unfold eE
   split
   · simp only [List.length_cons];omega
   · split<;>simp
theorem pW {α:Type} {key:α->Int} {n:α}:∀ {l:List α},Srt key l->(∃ b∈l,key b=key n)->(eE key n l).length=l.length
 | [],_,h=>by obtain ⟨b,hb,_⟩:=h;simp at hb
 | y :: r,hs,⟨b,hb,he⟩=>by
   have h1:=List.pairwise_cons.1 hs
   unfold eE
   rcases List.mem_cons.1 hb with rfl|hb
   · rw [if_neg (by omega),if_pos he]
     rfl
   · have:=h1.1 b hb
     rw [if_pos (by omega),List.length_cons,List.length_cons,pW h1.2 ⟨b,hb,he⟩]
theorem pI {id:Int} {l:List bD} (h:∀ c∈l,c.node≠id):bR id l=(0,0):=by
 unfold bR
 have e:l.filter (fun c=>c.node==id)=[]:=List.filter_eq_nil_iff.2 fun c hc=>by simpa using h c hc
 rw [e]
 rfl
theorem yA (h:Inv CK LF B s) {id:Int} (hn:∀ n∈s.nodes,n.id=id->n.up=false):(∀ c∈s.conts,c.node≠id)/\∀ x∈s.slots,x.node≠id:=by
 refine ⟨fun c hc he=>?_,fun x hx he=>?_⟩
 · obtain ⟨n,hn1,hn2,hn3,_⟩:=(h.cR c hc).node
   rw [hn n hn1 (hn2.trans he)] at hn3
   cases hn3
 · obtain ⟨n,hn1,hn2,hn3⟩:=h.sR x hx
   rw [hn n hn1 (hn2.trans he)] at hn3
   cases hn3
theorem tA (h:Inv CK LF B s) {n:Node} (hok:mS B s.labels.length s.now n) (hlen:(∃ b∈s.nodes,b.id=n.id)∨s.nodes.length<12) (hu:(bR n.id s.conts).1<=n.mem/\(bR n.id s.conts).2<=n.cores)
 (hc:∀ c∈s.conts,c.node=n.id->n.up=true/\n.label=c.label) (hs:∀ x∈s.slots,x.node=n.id->n.up=true):Inv CK LF B (jM s n):=by
 have hiff:∀ x,x∈eE Node.id n s.nodes↔x=n∨(x∈s.nodes/\x.id≠n.id):=fun x=>iZ h.nS
 refine { h with nS:=iI h.nS,nL:=?_,nR:=fun x hx=>?_,cR:=fun c hc'=>?_,fit:=fun x hx=>?_,sR:=fun x hx=>?_ }
 · rcases hlen with hb|hl
   · exact (pW h.nS hb) ▸ h.nL
   · exact Nat.le_trans mD hl
 · rcases (hiff x).1 hx with rfl|⟨hx,_⟩
   · exact hok
   · exact h.nR x hx
 · obtain ⟨c1,c2,c3,c4,c5,y,hy,hye,hyu,hyl⟩:=h.cR c hc'
   refine ⟨c1,c2,c3,c4,c5,?_⟩
   by_cases hy2:y.id=n.id
   · obtain ⟨g1,g2⟩:=hc c hc' (hye.symm.trans hy2)
     exact ⟨n,(hiff n).2 (.inl rfl),hy2.symm.trans hye,g1,g2⟩
   · exact ⟨y,(hiff y).2 (.inr ⟨hy,hy2⟩),hye,hyu,hyl⟩
 · rcases (hiff x).1 hx with rfl|⟨hx,_⟩
   · exact hu
   · exact h.fit x hx
 · obtain ⟨y,hy,hye,hyu⟩:=h.sR x hx
   by_cases hy2:y.id=n.id
   · exact ⟨n,(hiff n).2 (.inl rfl),hy2.symm.trans hye,hs x hx (hye.symm.trans hy2)⟩
   · exact ⟨y,(hiff y).2 (.inr ⟨hy,hy2⟩),hye,hyu⟩
theorem aBy (h:Inv CK LF B s) {n:Node} (hok:mS B s.labels.length s.now n) (hn:∀ x∈s.nodes,x.id=n.id->x.up=false) (hlen:(∃ b∈s.nodes,b.id=n.id)∨s.nodes.length<12):Inv CK LF B (jM s n):=by
 obtain ⟨h1,h2⟩:=yA h hn
 refine tA h hok hlen ?_ (fun c hc he=>absurd he (h1 c hc)) fun x hx he=>absurd he (h2 x hx)
 rw [pI h1]
 exact ⟨hok.mem.1,hok.cores.1⟩
theorem aJ7 (h:Inv CK LF B s) {m n:Node} (hm:m∈s.nodes) (hid:n.id=m.id) (hok:mS B s.labels.length s.now n) (hu:n.up=true) (h1:n.label=m.label) (h2:n.mem=m.mem) (h3:n.cores=m.cores):Inv CK LF B (jM s n):=by
 refine tA h hok (.inl ⟨m,hm,hid.symm⟩) ?_ (fun c hc he=>⟨hu,?_⟩) fun x hx he=>hu
 · rw [hid,h2,h3]
   exact h.fit m hm
 · obtain ⟨y,hy,hye,hyu,hyl⟩:=(h.cR c hc).node
   have:=gL h.nS hy hm (by rw [hye,he,hid])
   subst this
   rw [h1,hyl]
def bV (s:Sta) (node:Int):Sta:={ s with slots:=s.slots.filter fun x=>x.node !=node }
theorem jC (h:Inv CK LF B s) (p:dY->Bool):Inv CK LF B { s with slots:=s.slots.filter p } :=
 { h with sS:=fD h.sS,sR:=fun x hx=>h.sR x (List.mem_filter.1 hx).1,cR:=fun c hc=>⟨(h.cR c hc).id,(h.cR c hc).size,(h.cR c hc).prio,(h.cR c hc).notice,(h.cR c hc).app,(h.cR c hc).node⟩ }
theorem aIF (h:Inv CK LF B s) {m:Node} (hm:m∈s.nodes) (hc:∀ c∈s.conts,c.node≠m.id) (hs:∀ x∈s.slots,x.node≠m.id):Inv CK LF B (jM s { m with up:=false }):=by
 have hr:=h.nR m hm
 refine tA h ⟨hr.id,hr.label,hr.rack,hr.mem,hr.cores,hr.seen,hr.beat⟩ (.inl ⟨m,hm,rfl⟩) ?_ (fun c hc' he=>absurd he (hc c hc')) fun x hx he=>absurd he (hs x hx)
 rw [pI hc]
 exact ⟨hr.mem.1,hr.cores.1⟩
theorem yI (s:Sta) (i:Int):(dX s i).nodes=s.nodes/\(dX s i).labels=s.labels/\(dX s i).qs=s.qs/\(dX s i).plans=s.plans/\(dX s i).now=s.now/\(dX s i).ep=s.ep/\(dX s i).sq=s.sq:=by
 unfold dX
 cases gR i s.conts with
 | none=>exact ⟨rfl,rfl,rfl,rfl,rfl,rfl,rfl⟩
 | some c =>
   simp only
   split<;>exact ⟨rfl,rfl,rfl,rfl,rfl,rfl,rfl⟩
theorem aAv (s:Sta) (i:Int) (ns:List Node):dX { s with nodes:=ns } i={ dX s i with nodes:=ns }:=by
 unfold dX
 cases hf:gR i s.conts with
 | none=>simp only [hf]
 | some c =>
   simp only [hf]
   split<;>rfl
theorem p6:∀ (ids:List Int) (s:Sta) (ns:List Node),fG { s with nodes:=ns } ids={ fG s ids with nodes:=ns }
 | [],_,_=>rfl
 | i :: ids,s,ns=>by
   unfold fG
   rw [List.foldl_cons,List.foldl_cons,aAv]
   exact p6 ids (dX s i) ns
theorem s6:∀ (ids:List Int) (s:Sta),(fG s ids).nodes=s.nodes
 | [],_=>rfl
 | i :: ids,s=>by
   unfold fG
   rw [List.foldl_cons]
   exact (s6 ids (dX s i)).trans (yI s i).1
theorem yJ (s:Sta) (hs:Srt bD.id s.conts) (i:Int):(∀ c∈(dX s i).conts,c∈s.conts/\c.id≠i)/\(∀ x∈(dX s i).slots,x∈s.slots)/\Srt bD.id (dX s i).conts/\(dX s i).conts.length<=s.conts.length:=by
 unfold dX
 cases hf:gR i s.conts with
 | none =>
   refine ⟨fun c hc=>⟨hc,?_⟩,fun _ h=>h,hs,Nat.le_refl _⟩
   have:=List.find?_eq_none.1 hf c hc
   simpa using this
 | some c =>
   obtain ⟨hc,hci⟩:=qC hf
   simp only
   split
   · refine ⟨fun d hd=>?_,fun x hx=>(List.mem_filter.1 hx).1,fD hs,List.length_filter_le _ _⟩
     obtain ⟨h1,h2⟩:=List.mem_filter.1 hd
     refine ⟨h1,fun he=>?_⟩
     have:=gL hs h1 hc (by rw [he,hci])
     subst this
     simp at h2
   · refine ⟨fun d hd=>?_,fun x hx=>hx,fD hs,List.length_filter_le _ _⟩
     obtain ⟨h1,h2⟩:=List.mem_filter.1 hd
     refine ⟨h1,?_⟩
     have:d.id≠c.id:=by simpa using h2
     rw [hci] at this
     exact this
theorem s7:∀ (ids:List Int) (s:Sta) (hs:Srt bD.id s.conts),(∀ c∈(fG s ids).conts,c∈s.conts/\c.id∉ids)/\(∀ x∈(fG s ids).slots,x∈s.slots)
 | [],s,hs=>⟨fun c hc=>⟨hc,by simp⟩,fun _ h=>h⟩
 | i :: ids,s,hs=>by
   obtain ⟨h1,h2,h3,h4⟩:=yJ s hs i
   obtain ⟨g1,g2⟩:=s7 ids (dX s i) h3
   refine ⟨fun c hc=>?_,fun x hx=>h2 x (g2 x hx)⟩
   obtain ⟨q1,q2⟩:=g1 c hc
   obtain ⟨r1,r2⟩:=h1 c q1
   exact ⟨r1,by simp [r2,q2]⟩
def onL (s:Sta) (node:Int):List Int:=(s.conts.filter fun c=>c.node==node).map bD.id
def fU (s:Sta) (id:Int):Sta:=match eH id s.nodes with
 | none=>s
 | some n=>jM s { n with up:=false }
def aIr (s:Sta) (id:Int):Sta:=let t:=bV (fU s id) id
 fG t (onL t id)
theorem aFC (h:Inv CK LF B s) (id:Int):Inv CK LF (B+200) (aIr s id):=by
 unfold aIr fU
 cases hf:eH id s.nodes with
 | none =>
   simp only
   have h1:=jC h fun x=>x.node !=id
   have h2:=jN (onL (bV s id) id) h1
   refine h2.mono ?_
   have:(onL (bV s id) id).length<=200:=by
    unfold onL
    rw [List.length_map]
    exact Nat.le_trans (List.length_filter_le _ _) h.cL
   omega
 | some m =>
   obtain ⟨hm,hid⟩:=gG hf
   simp only
   have e1:bV (jM s { m with up:=false }) id={ bV s id with nodes:=eE Node.id { m with up:=false } s.nodes }:=rfl
   have e2:onL (bV (jM s { m with up:=false }) id) id=onL (bV s id) id:=rfl
   rw [e2,e1,p6]
   have h1:=jC h fun x=>x.node !=id
   have h2:=jN (onL (bV s id) id) h1
   obtain ⟨g1,g2⟩:=s7 (onL (bV s id) id) (bV s id) h.cS
   have hn:=s6 (onL (bV s id) id) (bV s id)
   have hlen:(onL (bV s id) id).length<=200:=by
    unfold onL
    rw [List.length_map]
    exact Nat.le_trans (List.length_filter_le _ _) h.cL
   have h3:Inv CK LF (B+200) (fG (bV s id) (onL (bV s id) id)):=h2.mono (by omega)
   generalize fG (bV s id) (onL (bV s id) id)=t at h2 h3 g1 g2 hn
   have hm2:m∈t.nodes:=by rw [hn];exact hm
   have key:=aIF h3 hm2 (fun c hc he=>by
    obtain ⟨q1,q2⟩:=g1 c hc
    refine q2 ?_
    unfold onL
    exact List.mem_map.2 ⟨c,List.mem_filter.2 ⟨q1,by simp [he,hid]⟩,rfl⟩) (fun x hx he=>by
    have:=(List.mem_filter.1 (g2 x hx)).2
    simp [he,hid] at this)
   have e3:jM t { m with up:=false }={ t with nodes:=eE Node.id { m with up:=false } s.nodes }:=by
    unfold jM
    rw [hn]
    rfl
   rw [e3] at key
   exact key
def fQ (p:Int) (l:List Ask):List Ask:=l.filterMap fun a=>if a.prio==p then (if a.count-1<=0 then none else some { a with count:=a.count-1,missed:=0 }) else some a
theorem aGy {l:List Ask} {p:Int} (h:∀ x∈l,jT x):(fQ p l).length<=l.length/\∀ x∈fQ p l,jT x:=by
 refine ⟨List.length_filterMap_le _ _,fun x hx=>?_⟩
 obtain ⟨y,hy,he⟩:=List.mem_filterMap.1 hx
 have h1:=h y hy
 have hc:=h1.count
 split at he
 · split at he
   · cases he
   · cases he
     exact ⟨h1.prio,h1.label,h1.size,by simp only;omega,h1.node,h1.rack,by simp⟩
 · cases he
   exact h1
def jV (s:Sta) (n:Node) (a:App) (x:Ask):bD:=⟨s.ep*2^20+(s.sq+1),a.id,n.id,x.mem,x.cores,x.prio,n.label,a.state==1,0⟩
def dC (s:Sta) (n:Node) (a:App) (x:Ask):App :=
 if a.state==1 then { a with state:=2,asks:=[],seen:=s.now,beat:=0 } else { a with asks:=fQ x.prio a.asks,grants:=a.grants++[(jV s n a x).id] }
def mK (s:Sta) (n:Node) (a:App) (x:Ask):Sta :=
 { s with sq:=s.sq+1,conts:=gH bD.id (jV s n a x) s.conts,apps:=eE App.id (dC s n a x) s.apps }
theorem yT {α:Type} {key:α->Int} {n:α}:∀ {l:List α},(∀ x∈l,key x<key n)->gH key n l=l++[n]
 | [],_=>rfl
 | y :: r,h=>by
   unfold gH
   rw [if_pos (h y (by simp)),yT fun x hx=>h x (by simp [hx])]
   rfl
theorem pH {id:Int} {l:List bD} {c:bD}:bR id (l++[c])=if c.node=id then ((bR id l).1+c.mem,(bR id l).2+c.cores) else bR id l:=by
 unfold bR
 rw [List.filter_append]
 by_cases h:c.node=id
 · rw [if_pos h]
   have:[c].filter (fun c=>c.node==id)=[c]:=by simp [h]
   rw [this]
   simp
 · rw [if_neg h]
   have:[c].filter (fun c=>c.node==id)=[]:=by simp [h]
   rw [this]
   simp
theorem vG (h:Inv CK LF B s) {n:Node} {a:App} {x:Ask} (hn:n∈s.nodes) (hup:n.up=true) (ha:a∈s.apps) (hl:live a=true) (hx:jT x) (hc:s.conts.length<200) (hq:s.sq+1<2^20)
 (h1:(bR n.id s.conts).1+x.mem<=n.mem) (h2:(bR n.id s.conts).2+x.cores<=n.cores):Inv CK LF (B+1) (mK s n a x):=by
 have hep:=h.ep
 have hsq:=h.sq
 have hnow:=h.now
 have hord:∀ c∈s.conts,bD.id c<bD.id (jV s n a x):=fun c hc=>by
  have:=(h.cR c hc).id
  show c.id<s.ep*2^20+(s.sq+1)
  omega
 have hins:gH bD.id (jV s n a x) s.conts=s.conts++[jV s n a x]:=yT hord
 have hor:=h.aR a ha
 have hgid:(dC s n a x).id=a.id:=by unfold dC;split<;>rfl
 have hgl:live (dC s n a x)=true:=by
  unfold dC
  split
  · rfl
  · exact hl
 have hst:a.state=1∨a.state=2:=by
  unfold live at hl
  simpa using hl
 have hgs:(dC s n a x).state=2:=by
  unfold dC
  split
  · rfl
  · rename_i h1
    have:¬ a.state=1:=by simpa using h1
    show a.state=2
    omega
 have hok:iV (B+1) s.now (dC s n a x):=by
  have hm:=hor.mono (B':=B+1) (by omega)
  unfold dC
  split
  · exact ⟨hm.id,by simp,hm.queue,hm.user,hm.prio,hm.size,by simp,by simp,⟨hnow.1,Int.le_refl _⟩,trivial,hm.gn,hm.gl,hm.kl,hm.tl,hm.ll⟩
  · obtain ⟨t1,t2⟩:=aGy (p:=x.prio) hor.ask
    refine { hm with asks:=Nat.le_trans t1 hm.asks,ask:=t2,gn:=?_,gl:=?_ }
    · refine List.nodup_append.2 ⟨hm.gn,by simp,fun g hg d hd=>?_⟩
      rw [List.mem_singleton] at hd
      subst hd
      have:=h.aG a ha g hg
      show g≠s.ep*2^20+(s.sq+1)
      omega
    · have:=hor.gl
      simp only [List.length_append,List.length_cons,List.length_nil]
      omega
 have hiff:∀ y,y∈eE App.id (dC s n a x) s.apps↔y=dC s n a x∨(y∈s.apps/\y.id≠(dC s n a x).id):=fun y=>iZ h.aS
 have hmem:∀ c,c∈(mK s n a x).conts↔c∈s.conts∨c=jV s n a x:=fun c=>by
  show c∈gH bD.id (jV s n a x) s.conts↔_
  rw [hins]
  simp
 have hb:(jV s n a x).node=n.id:=rfl
 refine ⟨h.ck,h.nS,h.nL,fun m hm=>(h.nR m hm).mono (by omega),iI h.aS,?_,fun y hy=>?_,fun y hy hyl=>?_,fun y hy g hg=>?_,?_,?_,fun c hc=>?_,fun m hm=>?_,fun y hy hys=>?_,fun c hc d hd hcd hcm hdm=>?_,fun y hy hys c hc=>?_,h.sS,h.sR,h.pS,h.pL,h.pR,h.now,h.ep,?_⟩
 · exact (pW h.aS ⟨a,ha,hgid.symm⟩) ▸ h.aL
 · rcases (hiff y).1 hy with rfl|⟨hy,_⟩
   · exact hok
   · exact (h.aR y hy).mono (by omega)
 · rcases (hiff y).1 hy with rfl|⟨hy,_⟩
   · have:(dC s n a x).queue=a.queue:=by unfold dC;split<;>rfl
     rw [this]
     exact h.aQ a ha hl
   · exact h.aQ y hy hyl
 · show g<=s.ep*2^20+(s.sq+1)
   rcases (hiff y).1 hy with rfl|⟨hy,_⟩
   · unfold dC at hg
     split at hg
     · have:=h.aG a ha g hg
       omega
     · rcases List.mem_append.1 hg with hg|hg
       · have:=h.aG a ha g hg
         omega
       · rw [List.mem_singleton] at hg
         subst hg
         exact Int.le_refl _
   · have:=h.aG y hy g hg
     omega
 · show Srt bD.id (gH bD.id (jV s n a x) s.conts)
   rw [hins]
   refine List.pairwise_append.2 ⟨h.cS,by simp,fun c hc d hd=>?_⟩
   rw [List.mem_singleton] at hd
   subst hd
   exact hord c hc
 · show (gH bD.id (jV s n a x) s.conts).length<=200
   rw [hins]
   simp only [List.length_append,List.length_cons,List.length_nil]
   omega
 · rcases (hmem c).1 hc with hc|rfl
   · obtain ⟨c1,c2,c3,c4,⟨y,hy,hye,hyl⟩,c6⟩:=h.cR c hc
     refine ⟨⟨c1.1,?_⟩,c2,c3,c4,?_,c6⟩
     · show c.id<=s.ep*2^20+(s.sq+1)
       omega
     · by_cases hya:y.id=a.id
       · exact ⟨dC s n a x,(hiff _).2 (.inl rfl),by rw [hgid,<- hya,hye],hgl⟩
       · exact ⟨y,(hiff y).2 (.inr ⟨hy,by rw [hgid];exact hya⟩),hye,hyl⟩
   · refine ⟨⟨?_,Int.le_refl _⟩,hx.size,hx.prio,⟨Int.le_refl _,.inl hnow.1⟩,⟨dC s n a x,(hiff _).2 (.inl rfl),hgid,hgl⟩,⟨n,hn,rfl,hup,rfl⟩⟩
     show 1<=s.ep*2^20+(s.sq+1)
     omega
 · show (bR m.id (gH bD.id (jV s n a x) s.conts)).1<=m.mem/\(bR m.id (gH bD.id (jV s n a x) s.conts)).2<=m.cores
   rw [hins,pH]
   split
   · rename_i he
     have:n=m:=gL h.nS hn hm he
     subst this
     exact ⟨h1,h2⟩
   · exact h.fit m hm
 · rcases (hiff y).1 hy with rfl|⟨hy,hne⟩
   · rw [hgid]
     rcases hst with hs1|hs2
     · exact ⟨jV s n a x,(hmem _).2 (.inr rfl),rfl,by simp [jV,hs1]⟩
     · obtain ⟨c,hc,hca,hcm⟩:=h.m1 a ha hs2
       exact ⟨c,(hmem c).2 (.inl hc),hca,hcm⟩
   · obtain ⟨c,hc,hca,hcm⟩:=h.m1 y hy hys
     exact ⟨c,(hmem c).2 (.inl hc),hca,hcm⟩
 · rcases (hmem c).1 hc with hc|rfl<;>rcases (hmem d).1 hd with hd|rfl
   · exact h.m2 c hc d hd hcd hcm hdm
   · have hs1:a.state=1:=by simpa [jV] using hdm
     exact absurd hcd (h.m0 a ha hs1 c hc)
   · have hs1:a.state=1:=by simpa [jV] using hcm
     exact absurd hcd.symm (h.m0 a ha hs1 d hd)
   · rfl
 · rcases (hiff y).1 hy with rfl|⟨hy,hne⟩
   · rw [hgs] at hys
     cases hys
   · rcases (hmem c).1 hc with hc|rfl
     · exact h.m0 y hy hys c hc
     · intro he
       exact hne (by rw [hgid];exact he.symm)
 · exact ⟨by show 0<=s.sq+1;omega,hq⟩
end
end Go.Proofs.YtakemdamegfcfaaGreat
