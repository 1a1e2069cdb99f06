/- A part of a proof: how code is told and stepped through. No condition. -/
import Derived.Test.YtakemdamegfcfaaGreatT5
import Derived.Carry
import Derived.ChangeArms
import Derived.ChangeSlices
import Derived.ChangeSame
import Derived.RowKit
import Derived.Test.YtakemdamegfcfaaGreatT6
import Derived.Handed
import Derived.OpenShut
set_option linter.unusedSimpArgs false
set_option linter.unusedVariables false
namespace Go.Ab
open Go Go.ChangeShapes Go.WideShapes Go.RowKit
def zO (W:World):Env:=⟨W,fun _ b=>b<W.heap.size,fun _=>none,fun _=>False⟩
theorem hm0 (W:World):HM (zO W) [] :=
 ⟨fun id o h=>by simp at h,fun i j oi oj Li Lj _ h=>by simp at h,fun b h=>h.elim,fun b h=>h.elim,fun t b h=>h,fun b h=>h⟩
theorem tZ {W:World} {E':Env} {n':Nat} (t:Trans (zO W) 0 E' n'):Below W.heap.size W E'.w :=
 ⟨t.os,t.tape,t.output,t.size,fun k hk=>t.keep k hk fun h=>h⟩
theorem aNl {w:World} {b o:Nat} {v:Value} (h:w.cell? ⟨b,o,none⟩=some v):b<w.heap.size:=by
 rcases Nat.lt_or_ge b w.heap.size with hb|hb
 · exact hb
 · have:w.heap[b]?=none:=by simp [hb]
   simp [World.cell?,this] at h
def Reads (P:Program) (t:TypeId) {α:Type} (av:α->AV) (ok:α->Prop):Prop :=
 ∀ (H:Type) (enc:TypeId×Value->H) (W:World) (fuel:Nat) (cs:List Value) (x:DataW H×List MemPlace),DataW.trod enc P W 0 (fun _=>true) true fuel t cs=some x ->
   ∃ a,ok a/\cs.length=(av a).cells.length/\∀ k y,(av a).cells[k]?=some y->(zO W).VR 0 (cs.getD k undef) y
section reads
variable {P:Program} {t:TypeId}
theorem aE3 {k:IntKind} (ht:P.underlying t=some (.int k)):Reads P t (fun n:Int=>.int k n) (fun n=>(Lit.int k n).wf=true):=by
 intro H enc W fuel cs x h
 obtain ⟨n,rfl,_,hw⟩:=DataW.trod_int ht h
 refine ⟨n,hw,rfl,fun j y hj=>?_⟩
 cases j with
 | zero=>simp [AV.cells] at hj;subst hj;exact .int
 | succ j=>simp [AV.cells] at hj
theorem a6l (ht:P.underlying t=some .bool):Reads P t (fun b:Bool=>.bool b) (fun _=>True):=by
 intro H enc W fuel cs x h
 obtain ⟨b,rfl,_⟩:=DataW.trod_bool ht h
 refine ⟨b,trivial,rfl,fun j y hj=>?_⟩
 cases j with
 | zero=>simp [AV.cells] at hj;subst hj;exact .bool
 | succ j=>simp [AV.cells] at hj
theorem a6h (ht:P.underlying t=some .string):Reads P t (fun s:List UInt8=>.str s) (fun s=>s.length<=maxLen):=by
 intro H enc W fuel cs x h
 obtain ⟨s,rfl,_,hs⟩:=DataW.trod_string ht h
 refine ⟨s.data.toList,by show s.data.toList.length<=maxLen;rw [Array.length_toList];exact hs,rfl,fun j y hj=>?_⟩
 cases j with
 | zero=>simp [AV.cells] at hj;subst hj;exact .str rfl
 | succ j=>simp [AV.cells] at hj
theorem lO {α:Type} {f:α->AV} {z:Nat}:∀ (l:List α) (hz:∀ a∈l,(f a).cells.length=z) (k:Nat) (y:AV),(flat (l.map f))[k]?=some y ->
 ∃ i j a,l[i]?=some a/\j<z/\k=i*z+j/\(f a).cells[j]?=some y
 | [],_,k,y,h=>by simp [flat] at h
 | a :: l,hz,k,y,h=>by
   simp only [flat,List.map_cons,List.flatMap_cons] at h
   have h0:=hz a List.mem_cons_self
   by_cases hk:k<z
   · rw [List.getElem?_append_left (by omega)] at h
     exact ⟨0,k,a,rfl,hk,by simp,h⟩
   · rw [List.getElem?_append_right (by omega),h0] at h
     obtain ⟨i,j,b,h1,h2,h3,h4⟩:=lO l (fun q hq=>hz q (List.mem_cons_of_mem _ hq)) (k-z) y h
     exact ⟨i+1,j,b,by simpa using h1,h2,by rw [Nat.add_mul];omega,h4⟩
theorem qS {α:Type} {p:Nat->α->Prop}:∀ (n:Nat),(∀ i,i<n->∃ a,p i a)->∃ l:List α,l.length=n/\∀ i a,l[i]?=some a->p i a
 | 0,_=>⟨[],rfl,fun i a h=>by simp at h⟩
 | n+1,h=>by
   obtain ⟨l,hl,hp⟩:=qS n fun i hi=>h i (by omega)
   obtain ⟨a,ha⟩:=h n (by omega)
   refine ⟨l++[a],by simp [hl],fun i b hb=>?_⟩
   by_cases hi:i<l.length
   · rw [List.getElem?_append_left hi] at hb
     exact hp i b hb
   · rw [List.getElem?_append_right (by omega)] at hb
     have:i-l.length=0:=by
      rcases Nat.eq_zero_or_pos (i-l.length) with h0|h0
      · exact h0
      · rw [List.getElem?_eq_none (by simp;omega)] at hb
        cases hb
     rw [this] at hb
     simp only [List.getElem?_cons_zero,Option.some.injEq] at hb
     subst hb
     have:i=n:=by omega
     subst this
     exact ha
theorem xN {e:TypeId} {α:Type} {av:α->AV} {ok:α->Prop} {z:Nat} (ht:P.underlying t=some (.slice e)) (hz:P.cellsOf e=z) (hz0:0<z) (he:Reads P e av ok) (hel:∀ a,ok a->(av a).el z=true) :
 Reads P t (fun l:List α=>.sl false z (l.map av)) (fun l=>(∀ a∈l,ok a)/\l.length<=maxLen):=by
 intro H enc W fuel cs x h
 rcases DataW.trod_slice ht h with ⟨rfl,_⟩|⟨a,len,cap,elems,rest,n,rfl,rfl,_,_,hlc,hcm,hlen,hel1,_,_⟩
 · refine ⟨[],⟨by simp,by simp⟩,rfl,fun j y hj=>?_⟩
   cases j with
   | zero=>simp [AV.cells] at hj;subst hj;exact .sl0
   | succ j=>simp [AV.cells] at hj
 · subst hz
   have key:∀ i,i<len->∃ b:α,ok b/\∀ k,k<P.cellsOf e->∃ v,W.cell? ((a.add (i*P.cellsOf e)).add k)=some v/\∀ y,(av b).cells[k]?=some y->(zO W).VR 0 v y:=by
    intro i hi
    have h1:=hel1 i hi
    have h2:elems[i]?=some (elems[i]'(by omega)):=List.getElem?_eq_getElem (by omega)
    rw [h2,Option.bind_eq_some_iff] at h1
    obtain ⟨cs,hc1,hc2⟩:=h1
    obtain ⟨_,hl,hcell⟩:=World.cells?_some hc1
    obtain ⟨b,hb,hbl,hbv⟩:=he H enc W _ _ _ hc2
    refine ⟨b,hb,fun k hk=>⟨cs.getD k undef,?_,fun y hy=>hbv k y hy⟩⟩
    rw [hcell k hk,List.getD_eq_getElem?_getD,List.getElem?_eq_getElem (by omega)]
    rfl
   obtain ⟨l,hl,hp⟩:=qS len key
   have hokl:∀ b∈l,ok b:=fun b hb=>by
    obtain ⟨i,hi⟩:=List.mem_iff_getElem?.1 hb
    exact (hp i b hi).1
   refine ⟨l,⟨hokl,by omega⟩,rfl,fun j y hj=>?_⟩
   cases j with
   | succ j=>simp [AV.cells] at hj
   | zero =>
     simp only [AV.cells,List.getElem?_cons_zero,Option.some.injEq] at hj
     subst hj
     simp only [List.getD_cons_zero]
     by_cases h0:len=0
     · have:l=[]:=List.eq_nil_of_length_eq_zero (hl.trans h0)
       subst this
       subst h0
       exact .sl0
     · obtain ⟨b0,hb0⟩:∃ b0,l[0]?=some b0:=⟨_,List.getElem?_eq_getElem (by omega)⟩
       obtain ⟨v0,hv0,_⟩:=(hp 0 b0 hb0).2 0 hz0
       obtain ⟨b,o,s⟩:=a
       have hs:s=none:=by
        have:=World.cell?_spot hv0
        simpa [Addr.add] using this
       subst hs
       have hcl:∀ q∈l,(av q).cells.length=P.cellsOf e:=fun q hq=>by
        have:=hel q (hokl q hq)
        simp only [AV.el,Bool.and_eq_true,beq_iff_eq] at this
        exact this.1
       have hlt:b<W.heap.size:=by
        have e1:((⟨b,o,none⟩:Addr).add (0*P.cellsOf e)).add 0=⟨b,o,none⟩:=by rw [add_plain,add_plain];simp
        rw [e1] at hv0
        exact aNl hv0
       refine .sl (fun k=>(W.cell? ⟨b,o+k,none⟩).getD undef) (by simp [hl]) (by simp;omega) hlt (fun q hq=>?_) (fun k hk=>?_) (fun k y hk=>?_)
       · obtain ⟨q',hq',rfl⟩:=List.mem_map.1 hq
         exact hel q' (hokl q' hq')
       · obtain ⟨y,hy⟩:∃ y,(flat (l.map av))[k]?=some y:=⟨_,List.getElem?_eq_getElem hk⟩
         obtain ⟨i,j,q,h1,h2,h3,h4⟩:=lO l hcl k y hy
         obtain ⟨v,hv,_⟩:=(hp i q h1).2 j h2
         rw [add_plain,add_plain] at hv
         show W.cell? ⟨b,o+k,none⟩=_
         rw [h3,<- Nat.add_assoc,hv]
         rfl
       · obtain ⟨i,j,q,h1,h2,h3,h4⟩:=lO l hcl k y hk
         obtain ⟨v,hv,hvy⟩:=(hp i q h1).2 j h2
         rw [add_plain,add_plain] at hv
         show (zO W).VR 0 ((W.cell? ⟨b,o+k,none⟩).getD undef) y
         rw [h3,<- Nat.add_assoc,hv]
         exact hvy y h4
theorem Reads.map {α β:Type} {av:α->AV} {ok:α->Prop} {av':β->AV} {ok':β->Prop} (h:Reads P t av ok) (g:α->β) (hg:∀ a,ok a->av' (g a)=av a/\ok' (g a)):Reads P t av' ok':=by
 intro H enc W fuel cs x hx
 obtain ⟨a,h1,h2,h3⟩:=h H enc W fuel cs x hx
 obtain ⟨h4,h5⟩:=hg a h1
 exact ⟨g a,h5,by rw [h4];exact h2,by rw [h4];exact h3⟩
def wY (P:Program) (fs:List Field) (off:Nat) {α:Type} (av:α->List AV) (ok:α->Prop):Prop :=
 ∀ (H:Type) (enc:TypeId×Value->H) (W:World) (fuel:Nat) (cs:List Value),(∀ (i:Nat) (f:Field),fs[i]?=some f->∃ x,DataW.trod enc P W 0 (fun _=>true) true fuel f.type ((cs.drop f.offset).take (P.cellsOf f.type))=some x) ->
   ∃ a,ok a/\∀ k y,(av a)[k]?=some y->(zO W).VR 0 (cs.getD (off+k) undef) y
theorem sO {off:Nat}:wY P [] off (fun _:Unit=>[]) (fun _=>True):=fun H enc W fuel cs _=>⟨(),trivial,fun k y h=>by simp at h⟩
theorem eQ {f:Field} {fs:List Field} {off z:Nat} {α β:Type} {av:α->AV} {ok:α->Prop} {avs:β->List AV} {oks:β->Prop} (hoff:f.offset=off) (hz:P.cellsOf f.type=z) (hf:Reads P f.type av ok) (hc:∀ a,ok a->(av a).cells.length=z) (hr:wY P fs (off+z) avs oks) :
 wY P (f :: fs) off (fun a:α×β=>(av a.1).cells++avs a.2) (fun a=>ok a.1/\oks a.2):=by
 intro H enc W fuel cs h
 obtain ⟨x,hx⟩:=h 0 f rfl
 obtain ⟨a,h1,h2,h3⟩:=hf H enc W fuel _ _ hx
 obtain ⟨b,h4,h5⟩:=hr H enc W fuel cs fun i g hg=>h (i+1) g (by simpa using hg)
 refine ⟨(a,b),⟨h1,h4⟩,fun k y hk=>?_⟩
 have hca:=hc a h1
 simp only at hk
 by_cases hkz:k<z
 · rw [List.getElem?_append_left (by omega)] at hk
   have:=h3 k y hk
   rw [hoff,hz,List.getD_eq_getElem?_getD,List.getElem?_take_of_lt hkz,List.getElem?_drop,<- List.getD_eq_getElem?_getD] at this
   exact this
 · rw [List.getElem?_append_right (by omega),hca] at hk
   have:=h5 (k-z) y hk
   have e:off+z+(k-z)=off+k:=by omega
   rw [e] at this
   exact this
theorem oP {fs:Array Field} {α:Type} {av:α->List AV} {ok:α->Prop} (ht:P.underlying t=some (.struct fs)) (h:wY P fs.toList 0 av ok) (hl:∀ a,ok a->(av a).length=P.cellsOf t) :
 Reads P t (fun a=>.agg (av a)) ok:=by
 intro H enc W fuel cs x hx
 obtain ⟨xs,n,rfl,_,h1,h2,h3⟩:=DataW.trod_struct ht hx
 obtain ⟨a,h4,h5⟩:=h H enc W n cs fun i f hf=>by
  have hf':fs[i]?=some f:=by simpa using hf
  rw [h3 i f hf']
  have:i<fs.size:=by
   rcases Nat.lt_or_ge i fs.size with g|g
   · exact g
   · simp [g] at hf'
  exact ⟨_,List.getElem?_eq_getElem (by omega)⟩
 refine ⟨a,h4,by rw [h1];exact (hl a h4).symm,fun k y hk=>?_⟩
 have:=h5 k y hk
 rwa [Nat.zero_add] at this
def uE (P:Program) (ts:List TypeId) {α:Type} (av:α->List AV) (ok:α->Prop):Prop :=
 ∀ (H:Type) (enc:TypeId×Value->H) (W:World) (base:Nat) (vs:List Value) (ds:List (DataW H)) (ps:List MemPlace),DataW.TrodAll enc P W 0 (fun _=>true) true ts vs ds ps ->
   (∀ (j:Nat) t v,ts[j]?=some t->vs[j]?=some v->Value.okWide P W .any base t v)->∃ a,ok a/\vs.length=(av a).length/\ds.length=ts.length/\∀ k y,(av a)[k]?=some y->(zO W).VR 0 (vs.getD k undef) y
theorem aAc:uE P [] (fun _:Unit=>[]) (fun _=>True):=fun H enc W base vs ds ps h _=>by
 obtain ⟨rfl,rfl,rfl⟩:=trodAll_nil h
 exact ⟨(),trivial,rfl,rfl,fun k y h=>by simp at h⟩
def aHe (P:Program) (t:TypeId):Bool:=match P.underlying t with
 | some (.int _)|some .bool|some .string|some (.slice _)=>true
 | _=>false
def aBq (P:Program) (t:TypeId):Bool:=match P.underlying t with
 | some (.struct _)=>true
 | _=>false
theorem xO {ts:List TypeId} {α β:Type} {av:α->AV} {ok:α->Prop} {avs:β->List AV} {oks:β->Prop} (ht:Reads P t av ok) (hp:(aHe P t=true/\∀ a,(av a).one=true)∨(aBq P t=true/\∀ a,∃ l,av a= .agg l/\∀ y∈l,y.one=true)) (hr:uE P ts avs oks) :
 uE P (t :: ts) (fun a:α×β=>av a.1 :: avs a.2) (fun a=>ok a.1/\oks a.2):=by
 intro H enc W base vs ds ps h hval
 obtain ⟨v,vs',d,ds',p,q,rfl,rfl,rfl,⟨fuel,h1⟩,h2⟩:=trodAll_cons h
 obtain ⟨b,g1,g2,g3,g4⟩:=hr H enc W base vs' ds' q h2 fun j t' v' ht' hv'=>hval (j+1) t' v' (by simpa using ht') (by simpa using hv')
 obtain ⟨a,k1,k2,k3⟩:=ht H enc W fuel _ _ h1
 have hv0:=hval 0 t v rfl rfl
 refine ⟨(a,b),⟨k1,g1⟩,by simp [g2],by simp [g3],fun k y hk=>?_⟩
 cases k with
 | succ k=>simpa using g4 k y (by simpa using hk)
 | zero =>
   simp only [List.getElem?_cons_zero,Option.some.injEq] at hk
   subst hk
   simp only [List.getD_cons_zero]
   rcases hp with ⟨hp,hone⟩|⟨hp,hag⟩
   · have e1:(av a).cells=[av a]:=by
      have:=hone a
      cases hq:av a<;>rw [hq] at this<;>simp [AV.one,AV.cells] at this ⊢
     have e2:v.cells= #[v]:=by
      unfold aHe at hp
      split at hp
      · rename_i k hk;obtain ⟨n,rfl⟩:=okWide_int hk hv0;rfl
      · rename_i hk;obtain ⟨n,rfl⟩:=okWide_bool hk hv0;rfl
      · rename_i hk;obtain ⟨n,rfl⟩:=okWide_string hk hv0;rfl
      · rename_i e hk;obtain ⟨x,y,z,rfl⟩:=okWide_slice hk hv0;rfl
      · cases hp
     have:=k3 0 (av a) (by rw [e1];rfl)
     rw [e2] at this
     simpa using this
   · obtain ⟨l,hl,hlone⟩:=hag a
     unfold aBq at hp
     split at hp
     · rename_i fs hk
       obtain ⟨cs,rfl,hcs⟩:=okWide_struct hk hv0
       rw [hl] at k2 k3 ⊢
       have e:cs=cs.toList.toArray:=by simp
       rw [e]
       exact .agg k2 hlone k3
     · cases hp
theorem aIb {H:Type} {enc:TypeId×Value->H} {P:Program} {f:FuncId} {fn:Func} {s:ChangeSpec} {α:Type} {av:α->List AV} {ok:α->Prop} {tb:TypeId} {ts:List TypeId} (hts:fn.params.toList=ts)
 (hR0:uE P ts av ok) (hvars:s.vars=[]) (hfn:∀ (H:Type) (ds:List (DataW H)),ds.length=fn.params.toList.length->s.fn H ds=⟨[.lit (.bool true)],ds,[]⟩)
 (hres:fn.resultTypes= #[tb]) (htb:P.underlying tb=some .bool) (hl:laidOutB P=true) (hread:fn.params.toList.all (fun t=>P.readableRec t&&decide (t<P.types.size))=true)
 (hA:∀ a,ok a->aW P f (av a) [] fun y _=>y= .bool true)
 {W:World} {base:Nat} {args:Array Value} {ds gs:List (DataW H)} {before:List MemPlace} (hval:∀ (j:Nat) t v,fn.params[j]?=some t->args[j]?=some v->Value.okWide P W .any base t v)
 (hW:DataW.Whole enc P fn.params.toList s.vars false W args.toList ds gs before) :
 Calls P f args W fun e W'=>∃ v,e= .returned v/\s.post enc P fn false true false false W args v W':=by
 have hR:uE P fn.params.toList av ok:=by rw [hts];exact hR0
 have hW':=hW
 obtain ⟨p,q,hA0,hV,rfl,hfz,hnd⟩:=hW
 rw [hvars] at hV
 obtain ⟨rfl,rfl⟩:=trodVars_none hV
 obtain ⟨a,h1,h2,h3,h4⟩:=hR H enc W base _ _ _ hA0 fun j t v ht hv=>hval j t v (by simpa using ht) (by simpa using hv)
 have hcall:=(hA a h1).2 (zO W) args.toList (hm0 W) h2 h4
 have e0:args.toList.toArray=args:=by simp
 rw [e0] at hcall
 refine hcall.mono fun e W' ⟨v,y,H',E',h5,h6,h7,h8,h9,h10⟩=>?_
 subst h5 h6 h10
 have hb:=tZ h9
 have hv:=h7.gS
 subst hv
 refine ⟨_,rfl,ds,[],p++[],[],p,[],hW',?_,?_,?_,hb.frame _,fun h=>by cases h⟩
 · rw [List.append_nil,hfn H ds h3,hres]
   exact trodAll_mk1 ⟨1,by simp [DataW.trod,htb,Value.cells,Value.resultList]⟩
 · rw [List.append_nil,hfn H ds h3]
   have hlt:∀ x∈p,x.block<W.heap.size:=fun x hx=>hW'.lt x (by simpa using hx)
   clear hW' hfn hres hval hV hfz hnd hR hts h2 h3 h4 hcall e0
   revert hlt
   have:∀ (ts:List TypeId) (vs:List Value) (ds:List (DataW H)) (p:List MemPlace),ts.all (fun t=>P.readableRec t&&decide (t<P.types.size))=true->DataW.TrodAll enc P W 0 (fun _=>true) true ts vs ds p->(∀ x∈p,x.block<W.heap.size) ->
    DataW.TrodAll enc P E'.w 0 (fun b=>decide (b<W.heap.size)) true ts vs ds p:=by
    intro ts
    induction ts with
    | nil =>
      intro vs ds p _ h _
      obtain ⟨rfl,rfl,rfl⟩:=trodAll_nil h
      exact trodAll_mk0
    | cons t ts ih =>
      intro vs ds p ha h hlt
      obtain ⟨v,vs',d,ds',p1,q1,rfl,rfl,rfl,g1,g2⟩:=trodAll_cons h
      simp only [List.all_cons,Bool.and_eq_true,decide_eq_true_eq] at ha
      exact ⟨p1,q1,Below.trod hl ha.1.1 ha.1.2 g1 hb (fun x hx=>hlt x (List.mem_append_left _ hx)),ih vs' ds' q1 ha.2 g2 (fun x hx=>hlt x (List.mem_append_right _ hx)),rfl⟩
   exact this _ _ _ _ hread hA0
 · rw [hvars,List.append_nil,hfn H ds h3]
   rfl
end reads
open Go
section
variable {P:Program} {t e:TypeId}
def okI (n:Int):Prop:= -2^63<=n/\n<2^63
theorem hJ (ht:P.underlying t=some (.int .i64)):Reads P t I64 okI :=
 (aE3 ht).map (fun n=>n) fun n hn=>by
   have h:=bounds_i64 hn
   exact ⟨rfl,by unfold okI;omega⟩
def okL {α:Type} (ok:α->Prop) (l:List α):Prop:=(∀ a∈l,ok a)/\l.length<2^63
theorem sN {α:Type} {av:α->AV} {ok:α->Prop} {z:Nat} (ht:P.underlying t=some (.slice e)) (hz:P.cellsOf e=z) (hz0:0<z) (he:Reads P e av ok) (hel:∀ a,ok a->(av a).el z=true) :
 Reads P t (fun l:List α=>.sl false z (l.map av)) (okL ok) :=
 (xN ht hz hz0 he hel).map (fun l=>l) fun l h=>⟨rfl,h.1,by have:=h.2;unfold maxLen at this;omega⟩
theorem aAb (ht:P.underlying t=some (.slice e)) (he:P.underlying e=some (.int .i64)) (hz:P.cellsOf e=1):Reads P t SI (okL okI) :=
 (sN ht hz (by omega) (hJ he) (fun _ _=>rfl)).map (fun l=>l) fun l h=>⟨rfl,h⟩
theorem a6k (ht:P.underlying t=some .string):Reads P t STR (fun l=>l.length<2^63) :=
 (a6h ht).map (fun l=>l) fun l h=>⟨rfl,by unfold maxLen at h;omega⟩
end
end Go.Ab
