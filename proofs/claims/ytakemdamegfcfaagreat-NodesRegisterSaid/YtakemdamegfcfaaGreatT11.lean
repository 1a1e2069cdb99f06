/- A part of a proof: what states are. No condition. -/
import Derived.Test.YtakemdamegfcfaaGreatT10
set_option linter.unusedSimpArgs false
set_option linter.unusedVariables false
namespace Go.Proofs.YtakemdamegfcfaaGreat
section

variable {CK:List (List UInt8)->List Queue->Prop} {LF:List Queue->List UInt8->Bool} {B:Nat} {s:Sta}
def pN (a:Ask):Bool->List Ask->List Ask
 | d,[]=>if d then [] else [a]
 | d,y :: r=>(if !d&&decide (y.prio>a.prio) then [a] else [])++(if y.prio=a.prio then [] else [y])++pN a (d||decide (y.prio>a.prio)) r
theorem xD {a x:Ask}:∀ {l:List Ask} {d:Bool},x∈pN a d l->x∈l∨(x=a/\d=false)
 | [],d,h=>by
   unfold pN at h
   split at h
   · simp at h
   · rename_i hd
     exact .inr ⟨by simpa using h,by simpa using hd⟩
 | y :: r,d,h=>by
   unfold pN at h
   rcases List.mem_append.1 h with h|h
   · rcases List.mem_append.1 h with h|h
     · split at h
       · rename_i hc
         simp only [Bool.and_eq_true,Bool.not_eq_true',decide_eq_true_eq] at hc
         exact .inr ⟨by simpa using h,hc.1⟩
       · simp at h
     · split at h
       · simp at h
       · exact .inl (by simp at h;simp [h])
   · rcases xD h with h|⟨h,hd⟩
     · exact .inl (by simp [h])
     · exact .inr ⟨h,by cases d<;>simp_all⟩
def oE (l:List Ask) (a:Ask):List Ask:=pN { a with missed:=0 } (a.count==0) l
theorem aKU {l:List Ask} {a:Ask} (hl:∀ x∈l,jT x) (h1:0<=a.prio/\a.prio<=9) (h2:0<=a.label) (h3:okV a.mem a.cores) (h4:0<=a.count/\a.count<=50) (h5: -1<=a.node/\a.node<=999) (h6: -1<=a.rack/\a.rack<=99):∀ x∈oE l a,jT x:=by
 intro x hx
 rcases xD hx with hx|⟨rfl,hd⟩
 · exact hl x hx
 · have:a.count≠0:=by simpa using hd
   exact ⟨h1,h2,h3,by simp only;omega,h5,h6,by simp⟩
def yE (p:Int) (a:Ask):Ask:=if a.prio=p then { a with missed:=min (a.missed+1) 100 } else a
def fF (p:Int) (l:List Ask):List Ask:=l.map (yE p)
theorem aH0 {l:List Ask} {p:Int} (h:∀ x∈l,jT x):(fF p l).length=l.length/\∀ x∈fF p l,jT x:=by
 refine ⟨List.length_map _,fun x hx=>?_⟩
 obtain ⟨y,hy,rfl⟩:=List.mem_map.1 hx
 have h1:=h y hy
 unfold yE
 split
 · exact { h1 with missed:=by have:=h1.missed;simp only;omega }
 · exact h1
theorem yD (h:Inv CK LF B s) {a:App} (ha:a∈s.apps) (p:Int):Inv CK LF B (iJ s { a with asks:=fF p a.asks }):=by
 have hr:=h.aR a ha
 obtain ⟨t1,t2⟩:=aH0 (p:=p) hr.ask
 exact yS h ha rfl { hr with asks:=by rw [t1];exact hr.asks,ask:=t2 } (fun g hg=>h.aG a ha g hg) rfl rfl
def lY (app:Int) (q:Sta×List Int) (i:Int):Sta×List Int:=match gR i q.1.conts with
 | none=>q
 | some c=>if c.app==app&& !c.master then (mR q.1 c.id,q.2.filter fun g=>g !=c.id) else q
def pE (app:Int) (ids:List Int) (q:Sta×List Int):Sta×List Int:=ids.foldl (lY app) q
theorem zF (app:Int):∀ (ids:List Int) {q:Sta×List Int},Inv CK LF B q.1->Inv CK LF B (pE app ids q).1/\(pE app ids q).2.Sublist q.2/\(pE app ids q).1.apps=q.1.apps/\(pE app ids q).1.now=q.1.now/\(pE app ids q).1.ep=q.1.ep/\(pE app ids q).1.sq=q.1.sq/\(pE app ids q).1.labels=q.1.labels/\(pE app ids q).1.qs=q.1.qs
 | [],q,h=>⟨h,List.Sublist.refl _,rfl,rfl,rfl,rfl,rfl,rfl⟩
 | i :: ids,q,h=>by
   have key:Inv CK LF B (lY app q i).1/\(lY app q i).2.Sublist q.2/\(lY app q i).1.apps=q.1.apps/\(lY app q i).1.now=q.1.now/\(lY app q i).1.ep=q.1.ep/\(lY app q i).1.sq=q.1.sq/\(lY app q i).1.labels=q.1.labels/\(lY app q i).1.qs=q.1.qs:=by
    unfold lY
    cases hf:gR i q.1.conts with
    | none=>exact ⟨h,List.Sublist.refl _,rfl,rfl,rfl,rfl,rfl,rfl⟩
    | some c =>
      obtain ⟨hc,hci⟩:=qC hf
      simp only
      split
      · rename_i hcond
        simp only [Bool.and_eq_true,Bool.not_eq_true'] at hcond
        refine ⟨aJ8 h fun d hd he=>?_,List.filter_sublist,rfl,rfl,rfl,rfl,rfl,rfl⟩
        have:=gL h.cS hd hc he
        subst this
        exact hcond.2
      · exact ⟨h,List.Sublist.refl _,rfl,rfl,rfl,rfl,rfl,rfl⟩
   obtain ⟨k1,k2,k3,k4,k5,k6,k7,k8⟩:=key
   obtain ⟨g1,g2,g3,g4,g5,g6,g7,g8⟩:=zF app ids k1
   exact ⟨g1,g2.trans k2,g3.trans k3,g4.trans k4,g5.trans k5,g6.trans k6,g7.trans k7,g8.trans k8⟩
def mV (a:App) (l:List Ask) (g:List Int) (now b:Int):App:={ a with asks:=l,seen:=now,beat:=b,told:=g,lost:=a.kills,grants:=[],kills:=[] }
theorem aGw (h:Inv CK LF B s) {a:App} (ha:a∈s.apps) {l:List Ask} {g:List Int} {b:Int} (hl:l.length<=8) (hk:∀ x∈l,jT x) (hg:g.length<=B):Inv CK LF (B+1) (iJ s (mV a l g s.now b)):=by
 have hr:=(h.aR a ha).mono (B':=B+1) (by omega)
 have hn:=h.now
 refine yS (h.mono (by omega)) ha rfl ?_ (fun x hx=>by simp [mV] at hx) rfl rfl
 exact ⟨hr.id,hr.state,hr.queue,hr.user,hr.prio,hr.size,hl,hk,⟨hn.1,Int.le_refl _⟩,trivial,List.nodup_nil,Nat.zero_le _,Nat.zero_le _,by show g.length<=B+1;omega,hr.kl⟩
theorem aFK {ls:List (List UInt8)} {qs:List Queue} (hc:CK ls qs):Inv CK LF B ⟨ls,qs,[],[],[],[],[],0,0,0⟩ :=
 ⟨hc,List.Pairwise.nil,by simp,by simp,List.Pairwise.nil,by simp,by simp,by simp,by simp,List.Pairwise.nil,by simp,by simp,by simp,by simp,by simp,by simp,List.Pairwise.nil,by simp,List.Pairwise.nil,by simp,by simp,by simp,by simp,by simp⟩
end
section

variable {CK:List (List UInt8)->List Queue->Prop} {LF:List Queue->List UInt8->Bool} {B:Nat} {s:Sta}
theorem kM {id:Int}:∀ {l:List bD},(∀ c∈l,okV c.mem c.cores)->0<=(bR id l).1/\(bR id l).1<=2^30*(l.length:Int)/\0<=(bR id l).2/\(bR id l).2<=2^30*(l.length:Int)
 | [],_=>by simp [bR]
 | c :: l,h=>by
   have ih:=kM (id:=id) (l:=l) fun x hx=>h x (List.mem_cons_of_mem _ hx)
   obtain ⟨c1,c2,c3,c4⟩:=h c (by simp)
   have e:bR id (c :: l)=if c.node=id then (c.mem+(bR id l).1,c.cores+(bR id l).2) else bR id l:=by
    unfold bR
    rw [List.filter_cons]
    by_cases hc:c.node=id
    · rw [if_pos hc,if_pos (by simp [hc])]
      simp
    · rw [if_neg hc,if_neg (by simp [hc])]
   rw [e]
   simp only [List.length_cons]
   split
   · simp only;omega
   · omega
def eY (id:Int) (s:Sta):Int×Int:=match eH id s.nodes with
 | none=>(0,0)
 | some n=>if n.up then (max (n.mem-(bR id s.conts).1) 0,max (n.cores-(bR id s.conts).2) 0) else (0,0)
theorem y5 {l:List Node} (hs:Srt Node.id l) {a:Node} (h:a∈l):eH a.id l=some a:=by
 unfold eH
 cases hf:l.find? fun x=>x.id==a.id with
 | none=>exact absurd (List.find?_eq_none.1 hf a h) (by simp)
 | some b =>
   have h1:=List.mem_of_find?_eq_some hf
   have h2:b.id=a.id:=by simpa using List.find?_some hf
   rw [gL hs h1 h h2]
theorem o7 (h:Inv CK LF B s) {n:Node} (hn:n∈s.nodes):(n.up=true->(bR n.id s.conts).1+(eY n.id s).1=n.mem/\(bR n.id s.conts).2+(eY n.id s).2=n.cores)/\(n.up=false->bR n.id s.conts=(0,0)/\eY n.id s=(0,0)):=by
 have hf:=y5 h.nS hn
 have hfit:=h.fit n hn
 refine ⟨fun hu=>?_,fun hu=>?_⟩
 · unfold eY
   rw [hf]
   simp only [hu,if_true]
   omega
 · obtain ⟨h1,_⟩:=yA h (id:=n.id) fun m hm he=>by
    have:=gL h.nS hm hn he
    subst this
    exact hu
   refine ⟨pI h1,?_⟩
   unfold eY
   rw [hf]
   simp [hu]
end
section

variable {CK:List (List UInt8)->List Queue->Prop} {LF:List Queue->List UInt8->Bool} {B:Nat} {s:Sta}
end
end Go.Proofs.YtakemdamegfcfaaGreat
