/- A part of a proof: what states are. No condition. -/
set_option linter.unusedSimpArgs false
set_option linter.unusedVariables false
namespace Go.Proofs.YtakemdamegfcfaaGreat
structure Node where
 id:Int
 label:Int
 rack:Int
 mem:Int
 cores:Int
 seen:Int
 beat:Int
 up:Bool
 deriving DecidableEq,Inhabited
structure Cap where
 least:Int
 most:Int
 deriving DecidableEq,Inhabited
structure Queue where
 path:List UInt8
 caps:List Cap
 user:Int
 deriving DecidableEq,Inhabited
structure Ask where
 prio:Int
 label:Int
 mem:Int
 cores:Int
 count:Int
 node:Int
 rack:Int
 missed:Int
 deriving DecidableEq,Inhabited
structure App where
 id:Int
 state:Int
 queue:List UInt8
 user:Int
 prio:Int
 mem:Int
 cores:Int
 asks:List Ask
 seen:Int
 beat:Int
 grants:List Int
 kills:List Int
 told:List Int
 lost:List Int
 deriving DecidableEq,Inhabited
structure bD where
 id:Int
 app:Int
 node:Int
 mem:Int
 cores:Int
 prio:Int
 label:Int
 master:Bool
 notice:Int
 deriving DecidableEq,Inhabited
structure dY where
 node:Int
 app:Int
 prio:Int
 deriving DecidableEq,Inhabited
structure dR where
 id:Int
 label:Int
 frm:Int
 til:Int
 mem:Int
 cores:Int
 deriving DecidableEq,Inhabited
structure Sta where
 labels:List (List UInt8)
 qs:List Queue
 nodes:List Node
 apps:List App
 conts:List bD
 slots:List dY
 plans:List dR
 now:Int
 ep:Int
 sq:Int
 deriving Inhabited
def eE {α:Type} (key:α->Int) (n:α):List α->List α
 | []=>[n]
 | x :: r=>if key x<key n then x :: eE key n r else if key x=key n then n :: r else n :: x :: r
def gH {α:Type} (key:α->Int) (n:α):List α->List α
 | []=>[n]
 | x :: r=>if key x<key n then x :: gH key n r else n :: x :: r
def Srt {α:Type} (key:α->Int) (l:List α):Prop:=l.Pairwise fun a b=>key a<key b
theorem mF {α:Type} {key:α->Int} {n:α}:∀ {l:List α} {x:α},x∈eE key n l->x=n∨x∈l
 | [],x,h=>by simp [eE] at h;exact .inl h
 | y :: r,x,h=>by
   unfold eE at h
   split at h
   · rcases List.mem_cons.1 h with h|h
     · exact .inr (by simp [h])
     · rcases mF h with h|h
       · exact .inl h
       · exact .inr (by simp [h])
   · split at h
     · rcases List.mem_cons.1 h with h|h
       · exact .inl h
       · exact .inr (by simp [h])
     · rcases List.mem_cons.1 h with h|h
       · exact .inl h
       · exact .inr h
theorem iI {α:Type} {key:α->Int} {n:α}:∀ {l:List α},Srt key l->Srt key (eE key n l)
 | [],_=>by simp [eE,Srt]
 | y :: r,h=>by
   have h1:=List.pairwise_cons.1 h
   unfold eE
   split
   · refine List.pairwise_cons.2 ⟨fun z hz=>?_,iI h1.2⟩
     rcases mF hz with rfl|hz
     · assumption
     · exact h1.1 z hz
   · split
     · rename_i h2 h3
       exact List.pairwise_cons.2 ⟨fun z hz=>by have:=h1.1 z hz;omega,h1.2⟩
     · rename_i h2 h3
       refine List.pairwise_cons.2 ⟨fun z hz=>?_,h⟩
       rcases List.mem_cons.1 hz with rfl|hz
       · omega
       · have:=h1.1 z hz;omega
theorem mW {α:Type} {key:α->Int} {n:α}:∀ {l:List α},n∈eE key n l
 | []=>by simp [eE]
 | y :: r=>by
   unfold eE
   split
   · exact List.mem_cons_of_mem _ mW
   · split<;>simp
theorem nY {α:Type} {key:α->Int} {n x:α}:∀ {l:List α},x∈l->key x≠key n->x∈eE key n l
 | y :: r,h,hne=>by
   unfold eE
   split
   · rcases List.mem_cons.1 h with rfl|h
     · simp
     · exact List.mem_cons_of_mem _ (nY h hne)
   · split
     · rename_i h2 h3
       rcases List.mem_cons.1 h with rfl|h
       · exact absurd h3 hne
       · simp [h]
     · exact List.mem_cons_of_mem _ h
theorem iZ {α:Type} {key:α->Int} {n x:α} {l:List α} (hs:Srt key l):x∈eE key n l↔x=n∨(x∈l/\key x≠key n):=by
 constructor
 · intro h
   rcases mF h with h1|h1
   · exact .inl h1
   · by_cases hk:key x=key n
     ·
      have hs2:=iI (n:=n) hs
      left
      have h2:=mW (key:=key) (n:=n) (l:=l)
      obtain ⟨i,hi,rfl⟩:=List.getElem_of_mem h
      obtain ⟨j,hj,he⟩:=List.getElem_of_mem h2
      have hp:=List.pairwise_iff_getElem.1 hs2
      rcases Nat.lt_trichotomy i j with h3|h3|h3
      · have:=hp i j hi hj h3;rw [he] at this;omega
      · subst h3;exact he
      · have:=hp j i hj hi h3;rw [he] at this;omega
     · exact .inr ⟨h1,hk⟩
 · rintro (rfl|⟨h1,h2⟩)
   · exact mW
   · exact nY h1 h2
theorem gL {α:Type} {key:α->Int} {l:List α} (hs:Srt key l) {x y:α} (hx:x∈l) (hy:y∈l) (h:key x=key y):x=y:=by
 obtain ⟨i,hi,rfl⟩:=List.getElem_of_mem hx
 obtain ⟨j,hj,rfl⟩:=List.getElem_of_mem hy
 have hp:=List.pairwise_iff_getElem.1 hs
 rcases Nat.lt_trichotomy i j with h3|h3|h3
 · have:=hp i j hi hj h3;omega
 · subst h3;rfl
 · have:=hp j i hj hi h3;omega
theorem rR {α:Type} {key:α->Int} {n:α}:∀ {l:List α},(∀ x∈l,key x≠key n)->gH key n l=eE key n l
 | [],_=>rfl
 | y :: r,h=>by
   unfold gH eE
   split
   · rw [rR fun x hx=>h x (by simp [hx])]
   · rw [if_neg (h y (by simp))]
section

def live (a:App):Bool:=a.state==1||a.state==2
def bR (id:Int) (l:List bD):Int×Int:=(((l.filter fun c=>c.node==id).map bD.mem).sum,((l.filter fun c=>c.node==id).map bD.cores).sum)
def jM (s:Sta) (n:Node):Sta:={ s with nodes:=eE Node.id n s.nodes }
def iJ (s:Sta) (a:App):Sta:={ s with apps:=eE App.id a s.apps }
def uT (s:Sta) (id:Int):Sta:={ s with conts:=s.conts.filter fun c=>c.app !=id,slots:=s.slots.filter fun x=>x.app !=id }
def aBv (s:Sta) (id:Int):List Int:=(s.conts.filter fun c=>c.app==id).map bD.id
def mR (s:Sta) (id:Int):Sta:={ s with conts:=s.conts.filter fun c=>c.id !=id }
def mM (a:App):List Ask:=[⟨0,0,a.mem,a.cores,1,-1,-1,0⟩]
def dP (id:Int) (l:List App):Option App:=l.find? fun a=>a.id==id
def eH (id:Int) (l:List Node):Option Node:=l.find? fun a=>a.id==id
def gR (id:Int) (l:List bD):Option bD:=l.find? fun a=>a.id==id
def gI:App:=⟨0,0,[],0,0,0,0,[],0,0,[],[],[],[]⟩
def gD (a:App) (st:Int):App:={ a with state:=st,asks:=[],grants:=[],kills:=[],told:=[],lost:=[] }
def wN (s:Sta) (id st:Int):Sta:=match dP id s.apps with
 | none=>s
 | some a=>if live a then uT (iJ s (gD a st)) id else s
def aAM (s:Sta) (id:Int):List Int:=match dP id s.apps with
 | none=>[]
 | some a=>if live a then aBv s id else []
def fJ (a:App) (now:Int):App:={ a with state:=1,asks:=mM a,grants:=[],kills:=[],told:=[],lost:=[],beat:=0,seen:=now }
def eV (a:App) (id:Int):App:=if a.grants.contains id then { a with grants:=a.grants.filter fun g=>g !=id } else { a with kills:=a.kills++[id] }
def dX (s:Sta) (i:Int):Sta:=match gR i s.conts with
 | none=>s
 | some c =>
   let a:=(dP c.app s.apps).getD gI
   if c.master then uT (iJ s (fJ a s.now)) c.app else iJ (mR s c.id) (eV a c.id)
def fG (s:Sta) (ids:List Int):Sta:=ids.foldl dX s
def okV (m c:Int):Prop:=1<=m/\m<=2^30/\1<=c/\c<=2^30
structure jT (x:Ask):Prop where
 prio:0<=x.prio/\x.prio<=9
 label:0<=x.label
 size:okV x.mem x.cores
 count:1<=x.count/\x.count<=50
 node: -1<=x.node/\x.node<=999
 rack: -1<=x.rack/\x.rack<=99
 missed:0<=x.missed/\x.missed<=100
structure iV (B:Nat) (now:Int) (a:App):Prop where
 id:0<=a.id/\a.id<=9999
 state:1<=a.state/\a.state<=4
 queue:a.queue.length<=60
 user:0<=a.user/\a.user<=99
 prio:0<=a.prio/\a.prio<=9
 size:okV a.mem a.cores
 asks:a.asks.length<=8
 ask:∀ x∈a.asks,jT x
 seen:0<=a.seen/\a.seen<=now
 beat:True
 gn:a.grants.Nodup
 gl:a.grants.length<=B
 kl:a.kills.length<=B
 tl:a.told.length<=B
 ll:a.lost.length<=B
structure mS (B:Nat) (nl:Nat) (now:Int) (n:Node):Prop where
 id:0<=n.id/\n.id<=999
 label:0<=n.label/\n.label<nl
 rack:0<=n.rack/\n.rack<=99
 mem:0<=n.mem/\n.mem<=2^30
 cores:0<=n.cores/\n.cores<=2^30
 seen:0<=n.seen/\n.seen<=now
 beat:True
structure aUa (s:Sta) (c:bD):Prop where
 id:1<=c.id/\c.id<=s.ep*2^20+s.sq
 size:okV c.mem c.cores
 prio:0<=c.prio/\c.prio<=9
 notice:0<=c.notice/\(c.notice<=s.now∨c.notice<=1)
 app:∃ a∈s.apps,a.id=c.app/\live a=true
 node:∃ n∈s.nodes,n.id=c.node/\n.up=true/\n.label=c.label
structure wZ (p:dR):Prop where
 mem:0<=p.mem/\p.mem<=2^30
 cores:0<=p.cores/\p.cores<=2^30
structure Inv (CK:List (List UInt8)->List Queue->Prop) (LF:List Queue->List UInt8->Bool) (B:Nat) (s:Sta):Prop where
 ck:CK s.labels s.qs
 nS:Srt Node.id s.nodes
 nL:s.nodes.length<=12
 nR:∀ n∈s.nodes,mS B s.labels.length s.now n
 aS:Srt App.id s.apps
 aL:s.apps.length<=16
 aR:∀ a∈s.apps,iV B s.now a
 aQ:∀ a∈s.apps,live a=true->LF s.qs a.queue=true
 aG:∀ a∈s.apps,∀ g∈a.grants,g<=s.ep*2^20+s.sq
 cS:Srt bD.id s.conts
 cL:s.conts.length<=200
 cR:∀ c∈s.conts,aUa s c
 fit:∀ n∈s.nodes,(bR n.id s.conts).1<=n.mem/\(bR n.id s.conts).2<=n.cores
 m1:∀ a∈s.apps,a.state=2->∃ c∈s.conts,c.app=a.id/\c.master=true
 m2:∀ c∈s.conts,∀ d∈s.conts,c.app=d.app->c.master=true->d.master=true->c=d
 m0:∀ a∈s.apps,a.state=1->∀ c∈s.conts,c.app≠a.id
 sS:Srt dY.node s.slots
 sR:∀ x∈s.slots,∃ n∈s.nodes,n.id=x.node/\n.up=true
 pS:Srt dR.id s.plans
 pL:s.plans.length<=12
 pR:∀ p∈s.plans,wZ p
 now:0<=s.now/\s.now<=1000000000
 ep:0<=s.ep/\s.ep<=2^20
 sq:0<=s.sq/\s.sq<2^20
variable {CK:List (List UInt8)->List Queue->Prop} {LF:List Queue->List UInt8->Bool} {B:Nat} {s:Sta}
theorem fD {α:Type} {key:α->Int} {l:List α} {p:α->Bool} (h:Srt key l):Srt key (l.filter p):=List.Pairwise.filter p h
theorem nN {l:List bD} {p:bD->Bool} {f:bD->Int} (h:∀ c∈l,0<=f c):((l.filter p).map f).sum<=(l.map f).sum/\0<=((l.filter p).map f).sum:=by
 induction l with
 | nil=>simp
 | cons c l ih =>
   have h1:=ih fun x hx=>h x (by simp [hx])
   have h2:=h c (by simp)
   rw [List.filter_cons]
   split
   · simp only [List.map_cons,List.sum_cons];omega
   · simp only [List.map_cons,List.sum_cons];omega
theorem qM {l:List bD} {p:bD->Bool} (id:Int) (h:∀ c∈l,okV c.mem c.cores):(bR id (l.filter p)).1<=(bR id l).1/\(bR id (l.filter p)).2<=(bR id l).2:=by
 unfold bR
 have e:(l.filter p).filter (fun c=>c.node==id)=(l.filter fun c=>c.node==id).filter p:=by
  rw [List.filter_filter,List.filter_filter]
  congr 1
  funext x
  rw [Bool.and_comm]
 rw [e]
 exact ⟨(nN fun c hc=>by have:=(h c (List.mem_filter.1 hc).1).1;omega).1,(nN fun c hc=>by have:=(h c (List.mem_filter.1 hc).1).2.2.1;omega).1⟩
theorem jG {id:Int} {l:List App} {a:App} (h:dP id l=some a):a∈l/\a.id=id:=by
 unfold dP at h
 exact ⟨List.mem_of_find?_eq_some h,by simpa using List.find?_some h⟩
theorem qC {id:Int} {l:List bD} {a:bD} (h:gR id l=some a):a∈l/\a.id=id:=by
 unfold gR at h
 exact ⟨List.mem_of_find?_eq_some h,by simpa using List.find?_some h⟩
theorem gG {id:Int} {l:List Node} {a:Node} (h:eH id l=some a):a∈l/\a.id=id:=by
 unfold eH at h
 exact ⟨List.mem_of_find?_eq_some h,by simpa using List.find?_some h⟩
theorem tI {l:List App} (hs:Srt App.id l) {a:App} (h:a∈l):dP a.id l=some a:=by
 unfold dP
 cases hf:l.find? fun x=>x.id==a.id with
 | none=>exact absurd (List.find?_eq_none.1 hf a h) (by simp)
 | some b =>
   have h1:=List.mem_of_find?_eq_some hf
   have h2:b.id=a.id:=by simpa using List.find?_some hf
   rw [gL hs h1 h h2]
theorem xR {s:Sta} {a b:App} (hs:Srt App.id s.apps) (hb:b∈s.apps) (he:b.id=a.id):(iJ s a).apps.length=s.apps.length:=by
 show (eE App.id a s.apps).length=s.apps.length
 generalize s.apps=l at hs hb
 induction l with
 | nil=>simp at hb
 | cons y r ih =>
   have h1:=List.pairwise_cons.1 hs
   unfold eE
   rcases List.mem_cons.1 hb with rfl|hb
   · rw [if_neg (by omega),if_pos he]
     rfl
   · have:=h1.1 b hb
     rw [if_pos (by omega),List.length_cons,List.length_cons,ih h1.2 hb]
theorem rQ (h:Inv CK LF B s) {a b:App} (ha:a∈s.apps) (hid:b.id=a.id) (hb:iV B s.now b) (hg:∀ g∈b.grants,g<=s.ep*2^20+s.sq) (hq:live b=true->live a=true/\b.queue=a.queue) {p:bD->Bool} {q:dY->Bool}
 (hp:∀ c∈s.conts,p c=true->c.app=a.id->live b=true)
 (h1:b.state=2->∃ c∈s.conts,c.app=a.id/\c.master=true/\p c=true) (h0:b.state=1->∀ c∈s.conts,p c=true->c.app≠a.id)
 (hm:∀ x∈s.apps,x.id≠a.id->x.state=2->∀ c∈s.conts,c.app=x.id->c.master=true->p c=true) :
 Inv CK LF B { s with apps:=eE App.id b s.apps,conts:=s.conts.filter p,slots:=s.slots.filter q }:=by
 have hiff:∀ x,x∈eE App.id b s.apps↔x=b∨(x∈s.apps/\x.id≠b.id):=fun x=>iZ h.aS
 refine ⟨h.ck,h.nS,h.nL,h.nR,iI h.aS,?_,fun x hx=>?_,fun x hx hl=>?_,fun x hx=>?_,fD h.cS,Nat.le_trans (List.length_filter_le _ _) h.cL,fun c hc=>?_,fun n hn=>?_,fun x hx hst=>?_,fun c hc d hd=>?_,fun x hx hst c hc=>?_,fD h.sS,fun x hx=>h.sR x (List.mem_filter.1 hx).1,h.pS,h.pL,h.pR,h.now,h.ep,h.sq⟩
 · exact (xR (s:=s) h.aS ha hid.symm) ▸ h.aL
 · rcases (hiff x).1 hx with rfl|⟨hx,_⟩
   · exact hb
   · exact h.aR x hx
 · rcases (hiff x).1 hx with rfl|⟨hx,_⟩
   · obtain ⟨hla,hqe⟩:=hq hl
     rw [hqe]
     exact h.aQ a ha hla
   · exact h.aQ x hx hl
 · rcases (hiff x).1 hx with rfl|⟨hx,_⟩
   · exact hg
   · exact h.aG x hx
 · obtain ⟨hc,hpc⟩:=List.mem_filter.1 hc
   obtain ⟨c1,c2,c3,c4,⟨y,hy,hye,hyl⟩,c6⟩:=h.cR c hc
   refine ⟨c1,c2,c3,c4,?_,c6⟩
   by_cases hya:y.id=a.id
   · exact ⟨b,(hiff b).2 (.inl rfl),by rw [hid,<- hya,hye],hp c hc hpc (by rw [<- hye,hya])⟩
   · exact ⟨y,(hiff y).2 (.inr ⟨hy,by rw [hid];exact hya⟩),hye,hyl⟩
 · have:=qM (p:=p) n.id fun c hc=>(h.cR c hc).size
   have:=h.fit n hn
   simp only
   omega
 · rcases (hiff x).1 hx with rfl|⟨hx,hne⟩
   · obtain ⟨c,hc,hca,hcm,hcp⟩:=h1 hst
     exact ⟨c,List.mem_filter.2 ⟨hc,hcp⟩,by rw [hid];exact hca,hcm⟩
   · obtain ⟨c,hc,hca,hcm⟩:=h.m1 x hx hst
     exact ⟨c,List.mem_filter.2 ⟨hc,hm x hx (by rw [hid] at hne;exact hne) hst c hc hca hcm⟩,hca,hcm⟩
 · exact h.m2 c (List.mem_filter.1 hc).1 d (List.mem_filter.1 hd).1
 · obtain ⟨hcs,hpc⟩:=List.mem_filter.1 hc
   rcases (hiff x).1 hx with rfl|⟨hx,hne⟩
   · rw [hid]
     exact h0 hst c hcs hpc
   · exact h.m0 x hx hst c hcs
theorem zT {a:App} (h:iV B s.now a) (hn:0<=s.now):iV B s.now (fJ a s.now):=by
 refine ⟨h.id,by simp [fJ],h.queue,h.user,h.prio,h.size,by simp [fJ,mM],fun x hx=>?_,⟨hn,Int.le_refl _⟩,trivial,List.nodup_nil,Nat.zero_le _,Nat.zero_le _,Nat.zero_le _,Nat.zero_le _⟩
 simp only [fJ,mM,List.mem_singleton] at hx
 subst hx
 exact ⟨by simp,by simp,h.size,by simp,by simp,by simp,by simp⟩
theorem iV.mono {B B':Nat} {now:Int} {a:App} (h:iV B now a) (hb:B<=B'):iV B' now a :=
 ⟨h.id,h.state,h.queue,h.user,h.prio,h.size,h.asks,h.ask,h.seen,trivial,h.gn,by have:=h.gl;omega,by have:=h.kl;omega,by have:=h.tl;omega,by have:=h.ll;omega⟩
theorem mS.mono {B B' nl:Nat} {now:Int} {a:Node} (h:mS B nl now a) (hb:B<=B'):mS B' nl now a :=
 ⟨h.id,h.label,h.rack,h.mem,h.cores,h.seen,trivial⟩
theorem Inv.mono {B B':Nat} (h:Inv CK LF B s) (hb:B<=B'):Inv CK LF B' s :=
 { h with nR:=fun n hn=>(h.nR n hn).mono hb,aR:=fun a ha=>(h.aR a ha).mono hb }
theorem aAs {a:App} {i:Int} (h:iV B s.now a):iV (B+1) s.now (eV a i):=by
 unfold eV
 split
 · have h2:=h.mono (B':=B+1) (by omega)
   exact { h2 with gn:=h.gn.filter _,gl:=Nat.le_trans (List.length_filter_le _ _) h2.gl }
 · have h2:=h.mono (B':=B+1) (by omega)
   exact { h2 with kl:=by have:=h.kl;simp only [List.length_append,List.length_cons,List.length_nil];omega }
theorem aAt {a:App} {i:Int}:(eV a i).id=a.id/\(eV a i).state=a.state/\(eV a i).queue=a.queue:=by
 unfold eV
 split<;>exact ⟨rfl,rfl,rfl⟩
theorem aAu {a:App} {i g:Int} (h:g∈(eV a i).grants):g∈a.grants:=by
 unfold eV at h
 split at h
 · exact (List.mem_filter.1 h).1
 · exact h
theorem aFm (h:Inv CK LF B s) (i:Int):Inv CK LF (B+1) (dX s i):=by
 unfold dX
 cases hf:gR i s.conts with
 | none=>exact h.mono (by omega)
 | some c =>
   obtain ⟨hc,hci⟩:=qC hf
   have hco:=h.cR c hc
   obtain ⟨a,ha,hae,hal⟩:=hco.app
   have hfa:dP c.app s.apps=some a:=by rw [<- hae];exact tI h.aS ha
   simp only [hfa,Option.getD_some]
   split
   · rename_i hm
     have key:=rQ (s:=s) (h.mono (B':=B+1) (by omega)) (a:=a) (b:=fJ a s.now) (p:=fun x=>x.app !=c.app) (q:=fun x=>x.app !=c.app) ha rfl (zT ((h.aR a ha).mono (by omega)) h.now.1) (fun g hg=>by simp [fJ] at hg)
      (fun _=>⟨hal,rfl⟩) (fun _ _ _ _=>by simp [live,fJ]) (fun hst=>by simp [fJ] at hst) (fun _ x hx hp=>by
        have:x.app≠c.app:=by simpa using hp
        rw [hae];exact this) (fun x hx hne _ d hd hdx _=>by
        have:d.app≠c.app:=by rw [hdx,<- hae];exact hne
        simpa using this)
     exact key
   · rename_i hm
     have hst:a.state=2:=by
      have h1:=h.m0 a ha
      by_cases hs1:a.state=1
      · exact absurd hae.symm (h1 hs1 c hc)
      · unfold live at hal
        simp only [Bool.or_eq_true,beq_iff_eq] at hal
        omega
     obtain ⟨e1,e2,e3⟩:=aAt (a:=a) (i:=c.id)
     have key:=rQ (s:=s) (h.mono (B':=B+1) (by omega)) (a:=a) (b:=eV a c.id) (p:=fun x=>x.id !=c.id) (q:=fun _=>true) ha e1 (aAs (h.aR a ha)) (fun g hg=>h.aG a ha g (aAu hg))
      (fun _=>⟨hal,e3⟩) (fun _ _ _ _=>by unfold live;rw [e2,hst];rfl) (fun _=>by
        obtain ⟨d,hd,hda,hdm⟩:=h.m1 a ha hst
        refine ⟨d,hd,hda,hdm,?_⟩
        have:d.id≠c.id:=fun he=>by
         have:=gL h.cS hd hc he
         subst this
         exact hm hdm
        simpa using this) (fun hs1=>by rw [e2,hst] at hs1;cases hs1) (fun x hx hne hsx d hd hdx hdm=>by
        have:d.id≠c.id:=fun he=>by
         have:=gL h.cS hd hc he
         subst this
         exact hm hdm
        simpa using this)
     have e5:s.slots.filter (fun _=>true)=s.slots:=List.filter_eq_self.2 fun _ _=>rfl
     rw [e5] at key
     exact key
theorem jN:∀ (ids:List Int) {B:Nat} {s:Sta},Inv CK LF B s->Inv CK LF (B+ids.length) (fG s ids)
 | [],_,_,h=>h
 | i :: ids,B,s,h=>by
   have:=jN ids (aFm h i)
   rw [show B+1+ids.length=B+(i :: ids).length by simp;omega] at this
   exact this
end
end Go.Proofs.YtakemdamegfcfaaGreat
