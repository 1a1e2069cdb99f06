/- A part of a proof: what functions of the program compute. No condition. -/
import Derived.Test.YtakemdamegfcfaaGreatU37
import Derived.Test.YtakemdamegfcfaaGreatU42
import Derived.Test.YtakemdamegfcfaaGreatU43
import Derived.Test.YtakemdamegfcfaaGreatU45
import Derived.Test.YtakemdamegfcfaaGreatT26
import Derived.Test.YtakemdamegfcfaaGreatT34
import Derived.Test.YtakemdamegfcfaaGreatT35
import Derived.KernelRfl
set_option linter.unusedSimpArgs false
set_option linter.unusedVariables false
set_option maxRecDepth 20000
namespace Go.Proofs.YtakemdamegfcfaaGreat
open Go Go.Ab
theorem a6p (s:Sta) (hs:NOk s) (id:Int):aT Tryz.prog 39 [.agg (stC s),.int .i64 id] (dT APP gI (dP id s.apps)):=by
 have ha36:=hs.a
 have ca:=a5M s id (by omega)
 refine aT.wk3 (aO a6A (by simp) ?_)
 unfold a6C dT
 unfold stC at *
 simp -implicitDefEqProofs(disch:=first|decide|omega)only[↓aA,aC,aB,simprocAttr,x8,bB,a9]
 refine aE (aI.of (aM:=false) (ca) (.refl rfl) rfl (by simp)) ?_
 rcases yU (idA id) s.apps with ⟨h1,h2⟩|⟨i,hi,h1,h2,h3,h4⟩
 · have hf:dP id s.apps=none:=h2
   rw [h1,hf]
   simp -implicitDefEqProofs(disch:=first|decide|omega)only[↓aA,aC,aB,simprocAttr,x8,bB,a9]
   refine .inr ⟨_,_,rfl,rfl,.inr ⟨_,_,rfl,rfl,?_⟩,.inl (.inl rfl),trivial⟩
   simp [gI,bI,WkL,Wk1]
 · have hf:dP id s.apps=some s.apps[i]:=h3
   have hg:s.apps.getD i default=s.apps[i]:=by simp [hi]
   have hx:=hs.at_ _ (List.getElem_mem hi)
   have b1:=hx.asks;have b2:=hx.gl;have b3:=hx.kl;have b4:=hx.tl;have b5:=hx.ll
   unfold wX at b2 b3 b4 b5
   have c2:=a3G s.apps[i] (by omega) (by omega) (by omega) (by omega) (by omega)
   rw [h1,hf]
   simp -implicitDefEqProofs(disch:=first|decide|omega)only[↓aA,aC,aB,simprocAttr,x8,bB,a9,hg,List.append_nil]
   refine ⟨by omega,by omega,?_⟩
   refine aE (aI.of (aM:=false) (c2) (.refl rfl) rfl (by simp)) ?_
   simp -implicitDefEqProofs(disch:=first|decide|omega)only[↓aA,aC,aB,simprocAttr,x8,bB,a9,List.append_nil]
   exact .inl (.inl (.inl rfl))
def a6f (id:Int) (q:List UInt8):App:=⟨id,0,q,0,0,1,1,[],0,0,[],[],[],[]⟩
theorem wkQ (id:Int) (q:List UInt8):Wk3 (.agg [.int .i64 id,.int .i64 0,.str q,.int .i64 0,.int .i64 0,.int .i64 1,.int .i64 1,.aD,.int .i64 0,.int .i64 0,.aD,.aD,.aD,.aD]) (APP (a6f id q)):=by
 refine .inl (.inr ⟨_,_,rfl,rfl,?_⟩)
 simp [bI,a6f,WkL,Wk1]
def knS:Sta:={ s4 with apps:=[hY (a6f 4 nO) 0] }
theorem a6q:aT Tryz.prog 32 [] (.bool true):=by
 have k54:=aHS
 have k36:=a6o s4 aMq (by decide) .nil (fun q hq=>by rw [List.mem_singleton.1 hq];decide) (a6f 4 nO)
 have er:pJ s4 (a6f 4 nO)=(knS,0):=by
  unfold pJ
  rw [if_neg (by decide),if_neg (by decide),if_neg (by decide),if_pos (by decide)]
  rfl
 rw [er] at k36
 have nk:NOk knS:=⟨aSD,by decide,by decide,(fun a ha=>by rw [List.mem_singleton.1 ha];exact ⟨by decide,by decide,by decide,by decide,by decide,by decide⟩),by decide,by decide,by decide⟩
 have k39:=a6p knS nk 4
 have ef:dP 4 knS.apps=some (hY (a6f 4 nO) 0):=rfl
 rw [ef] at k39
 have k38:=a2m (hY (a6f 4 nO) 0)
 have m1:(hY (a6f 4 nO) 0).state=1:=rfl
 have m2:(hY (a6f 4 nO) 0).asks.length=1:=rfl
 have m3:live (hY (a6f 4 nO) 0)=true:=rfl
 rw [m3] at k38
 unfold dT at k39
 simp only [Option.getD_some,Option.isSome_some] at k39
 unfold sH at k36
 generalize hY (a6f 4 nO) 0=m at *
 unfold aT
 refine aK a6K (by simp) ?_
 unfold a6G
 simp -implicitDefEqProofs(disch:=first|decide|omega)only[↓aA,aC,aB,simprocAttr,x8,bB]
 refine aE (aI.of (aM:=false) (k54) (.refl rfl) rfl (by simp)) ?_
 simp -implicitDefEqProofs(disch:=first|decide|omega)only[↓aA,aC,aB,simprocAttr,x8,bB]
 refine aE (aI.of (aM:=false) k36 (.cons (.refl rfl) (.cons (Vw.wk (wkQ 4 nO) rfl) .nil)) rfl (by simp)) ?_
 simp -implicitDefEqProofs(disch:=first|decide|omega)only[↓aA,aC,aB,simprocAttr,x8,bB,a9]
 refine aE (aI.of (aM:=false) (k39) (.refl rfl) rfl (by simp)) ?_
 simp -implicitDefEqProofs(disch:=first|decide|omega)only[↓aA,aC,aB,simprocAttr,x8,bB,a9,m1,m2]
 refine aE (aI.of (aM:=false) (k38) (.refl rfl) rfl (by simp)) ?_
 simp -implicitDefEqProofs(disch:=first|decide|omega)only[↓aA,aC,aB,simprocAttr,x8,bB]
theorem a6v (a:App):aW Tryz.prog 33 [APP a] [] fun y _=>∃ b,y= .bool b:=by
 refine aK a6J (by simp) ?_
 unfold a6F
 simp -implicitDefEqProofs(disch:=first|decide|omega)only[↓aA,aC,aB,simprocAttr,x8,bB,a9]
 repeat' first
  | exact ⟨_,rfl⟩
  | (refine bC (fun hb=>?_) (fun hb=>?_)<;>simp -implicitDefEqProofs(disch:=first|decide|omega)only[↓aA,aC,aB,simprocAttr,x8,hb,bB,a9])
theorem a6u (a n:Int) (h:1<=n) (h2:n<=1000000):aT Tryz.prog 35 [.int .i64 a,.int .i64 n] (.int .i64 (inF a n)):=by
 unfold aT
 refine aK a6I (by simp) ?_
 unfold a6E
 have hr: -n<a.tmod n/\a.tmod n<n:=⟨Int.lt_tmod_of_pos a (by omega),Int.tmod_lt_of_pos a (by omega)⟩
 unfold inF
 generalize hk:a.tmod n=k at hr
 by_cases hc:k<0
 · rw [if_pos hc]
   simp -implicitDefEqProofs(disch:=first|decide|omega)only[↓aA,aC,aB,simprocAttr,x8,hk]
   omega
 · rw [if_neg hc]
   simp -implicitDefEqProofs(disch:=first|decide|omega)only[↓aA,aC,aB,simprocAttr,x8,hk]
   omega
theorem a6j (s:Sta) (a:App):(pJ s a).1=s∨(pJ s a).2=0:=by
 unfold pJ
 split
 · exact .inl rfl
 split
 · exact .inl rfl
 split
 · exact .inl rfl
 split
 · exact .inr rfl
 · exact .inl rfl
theorem a6n {B:Nat} {t:Sta} (h:II B t) (hB:B<=2^39):aT Tryz.prog 19 [.agg (stC t),.agg (stC t)] (.bool true):=a1U (okS h hB) t rfl rfl (by omega) rfl rfl rfl rfl
theorem a6t {B:Nat} {s:Sta} (h:II B s) (hB:B<=2^39) (a:App):aT Tryz.prog 36 [.agg (stC s),APP a] (sH (pJ s a)) :=
 a6o s (a2n (okS h hB)) (by have:=(okS h hB).st.a;omega) h.aS h.ck.nz a
set_option maxHeartbeats 4000000 in
theorem a6w {s:Sta} {B:Nat} (h:II B s) (hB:B<=2^39) (a:App) (o:AO) (R:bX) (h5:R.get 5= .ref 1 0 0) (h9:R.get 9= .ref 2 0 0):aw Tryz.prog a6m (aG1 [8] fun y _=>y= .bool true) ⟨R,[o,.box (bI a),.box (stC s)]⟩:=by
 have K:=okS h hB
 have subP:=a6t h hB a
 have subR:=aEY s (by have:=K.st.a;omega) K.q a
 have same0:=a6n h hB
 have same1:=a6n (aGA h a) hB
 unfold sH at subP subR
 unfold a6m
 simp -implicitDefEqProofs(disch:=first|decide|omega)only[↓aA,aC,aB,simprocAttr,x8,bB,a9,h5,h9]
 refine aE (aI.of (aM:=false) (subP) (.refl rfl) rfl (by simp)) ?_
 simp -implicitDefEqProofs(disch:=first|decide|omega)only[↓aA,aC,aB,simprocAttr,x8,bB,a9,h5,h9]
 refine aE (aI.of (aM:=false) (subR) (.refl rfl) rfl (by simp)) ?_
 rcases a6j s a with e|e
 · rw [e]
   simp -implicitDefEqProofs(disch:=first|decide|omega)only[↓aA,aC,aB,simprocAttr,x8,bB,beq_self_eq_true]
   repeat' first
    | rfl
    | (refine aE (aI.of (aM:=false) (same0) (.refl rfl) rfl (by simp)) ?_;simp -implicitDefEqProofs(disch:=first|decide|omega)only[↓aA,aC,aB,simprocAttr,x8,bB])
    | (refine bC (fun hb=>?_) (fun hb=>?_)<;>simp -implicitDefEqProofs(disch:=first|decide|omega)only[↓aA,aC,aB,simprocAttr,x8,hb,bB])
 · rw [e]
   simp -implicitDefEqProofs(disch:=first|decide|omega)only[↓aA,aC,aB,simprocAttr,x8,bB,beq_self_eq_true]
   refine aE (aI.of (aM:=false) (same1) (.refl rfl) rfl (by simp)) ?_
   simp -implicitDefEqProofs(disch:=first|decide|omega)only[↓aA,aC,aB,simprocAttr,x8,bB]
theorem x9a {a:App}:partOf (bI a) 6 1 false= .int .i64 a.cores:=rfl
theorem x9b {a:App} {v:Int}: .int .i64 v :: List.drop 1 (bI a)=bI { a with id:=v }:=rfl
theorem x9c {a:App} {v:List UInt8}:List.take 2 (bI a)++[.str v]++List.drop 3 (bI a)=bI { a with queue:=v }:=rfl
theorem x9d {a:App} {v:Int}:List.take 3 (bI a)++[.int .i64 v]++List.drop 4 (bI a)=bI { a with user:=v }:=rfl
theorem x9e {a:App} {v:Int}:List.take 4 (bI a)++[.int .i64 v]++List.drop 5 (bI a)=bI { a with prio:=v }:=rfl
theorem a6x {a:App} {m c:Int}:List.take 5 (bI a)++[.int .i64 m,.int .i64 c]++List.drop 7 (bI a)=bI { a with mem:=m,cores:=c }:=rfl
set_option maxHeartbeats 4000000 in
theorem a6H (x:Scr) (a:App) (g:Bool) (at_:Int):aW Tryz.prog 7 [.agg (jJ x),APP a,.bool g,.int .i64 at_] [] fun y _=>y= .bool true:=by
 refine aK is7 (by simp) ?_
 unfold cc7
 have kf:=aSv x
 have ks:=aGB x
 generalize hx:wM x=b at kf ks
 unfold jJ at kf ks ⊢
 simp -implicitDefEqProofs(disch:=first|decide|omega)only[↓aA,aC,aB,simprocAttr,x8,bB,a9]
 refine aE (aI.of (aM:=false) (a6q) (.refl rfl) rfl (by simp)) ?_
 simp -implicitDefEqProofs(disch:=first|decide|omega)only[↓aA,aC,aB,simprocAttr,x8,bB,a9]
 refine aE (aI.of (aM:=false) (kf) (.refl rfl) rfl (by simp)) ?_
 cases b
 · simp -implicitDefEqProofs(disch:=first|decide|omega)only[↓aA,aC,aB,simprocAttr,x8,bB]
 simp -implicitDefEqProofs(disch:=first|decide|omega)only[↓aA,aC,aB,simprocAttr,x8,bB,a9]
 refine aH (a6v a) rfl (by rintro _ ⟨_,rfl⟩;rfl) ?_
 rintro _ ⟨b,rfl⟩
 cases b
 · simp -implicitDefEqProofs(disch:=first|decide|omega)only[↓aA,aC,aB,simprocAttr,x8,bB]
 simp -implicitDefEqProofs(disch:=first|decide|omega)only[↓aA,aC,aB,simprocAttr,x8,bB,a9]
 refine aH (ks rfl) rfl (fun y hy=>zZ hy) ?_
 rintro _ ⟨s,rfl,h⟩
 have K:=okS h (by omega)
 simp -implicitDefEqProofs(disch:=first|decide|omega)only[↓aA,aC,aB,simprocAttr,x8,bB,a9]
 cases g
 · simp -implicitDefEqProofs(disch:=first|decide|omega)only[↓aA,aC,aB,simprocAttr,x8,bB,a9]
   exact a6w h (by omega) a _ [(3,.int .i64 at_),(5,.ref 1 0 0),(9,.ref 2 0 0),(27,.bool false)] rfl rfl
 have lv:=aFq s.labels s.qs K.q
 have hq1:=K.st.c.q1
 have hq3:=K.st.c.q3
 have l1:=aFr (qs:=s.qs) (fun e=>by rw [e] at hq1;simp at hq1)
 have l3:(o6 s.qs).length<=s.qs.length:=List.length_filter_le _ _
 have hll:((o6 s.qs).map Queue.path).length=(o6 s.qs).length:=List.length_map ..
 generalize (o6 s.qs).map Queue.path=l at lv hll
 unfold bN at lv
 have rg:=gO at_ l.length (by omega)
 simp -implicitDefEqProofs(disch:=first|decide|omega)only[↓aA,aC,aB,simprocAttr,x8,bB,a9,x9a,x9b,x9c,x9d,x9e]
 refine aE (aI.of (aM:=false) (lv) (.refl rfl) rfl (by simp)) ?_
 simp -implicitDefEqProofs(disch:=first|decide|omega)only[↓aA,aC,aB,simprocAttr,x8,bB,a9,x9a,x9b,x9c,x9d,x9e]
 repeat' first
  | with_reducible apply And.intro
  | omega
  | (refine bP (a6u _ _ (by omega) (by omega)) rfl rfl ?_;simp -implicitDefEqProofs(disch:=first|decide|omega)only[↓aA,aC,aB,simprocAttr,x8,bB,a9,x9a,x9b,x9c,x9d,x9e])
 rw [a6x]
 exact a6w h (by omega) _ _ [(5,.ref 1 0 0),(9,.ref 2 0 0)] rfl rfl
section
open Go Go.Ab
variable {P:Program} {t e:TypeId}
theorem b8Z (ht:P.underlying t=some .bool):Reads P t (fun b:Bool=>.bool b) (fun _=>True):=by
 intro H enc W fuel cs x h
 obtain ⟨b,rfl,_⟩:=DataW.trod_bool ht h
 refine ⟨b,trivial,rfl,fun j y hj=>?_⟩
 cases j with
 | zero=>simp [AV.cells] at hj;subst hj;exact .bool
 | succ j=>simp [AV.cells] at hj
theorem b8Y (ht:P.underlying t=some .string):Reads P t (fun s:List UInt8=>.str s) (fun s=>s.length<=maxLen):=by
 intro H enc W fuel cs x h
 obtain ⟨s,rfl,_,hs⟩:=DataW.trod_string ht h
 refine ⟨s.data.toList,by show s.data.toList.length<=maxLen;rw [Array.length_toList];exact hs,rfl,fun j y hj=>?_⟩
 cases j with
 | zero=>simp [AV.cells] at hj;subst hj;exact .str rfl
 | succ j=>simp [AV.cells] at hj
theorem b8X (ht:P.underlying t=some .string):Reads P t STR (fun l=>l.length<2^63) :=
 (b8Y ht).map (fun l=>l) fun l h=>⟨rfl,by unfold maxLen at h;omega⟩
end
theorem a6y:Reads Tryz.prog 89 ASK (fun _=>True) :=
 Reads.map (oP Tryz.underlying89 (eQ (z:=1) rfl (by kernel_rfl) (hJ Tryz.underlying3) (fun _ _=>rfl) (eQ (z:=1) rfl (by kernel_rfl) (hJ Tryz.underlying3) (fun _ _=>rfl) (eQ (z:=2) rfl (by kernel_rfl) (oP Tryz.underlying27 (eQ (z:=1) rfl (by kernel_rfl) (hJ Tryz.underlying3) (fun _ _=>rfl) (eQ (z:=1) rfl (by kernel_rfl) (hJ Tryz.underlying3) (fun _ _=>rfl) sO)) (fun _ _=>rfl)) (fun _ _=>rfl) (eQ (z:=1) rfl (by kernel_rfl) (hJ Tryz.underlying3) (fun _ _=>rfl) (eQ (z:=1) rfl (by kernel_rfl) (hJ Tryz.underlying3) (fun _ _=>rfl) (eQ (z:=1) rfl (by kernel_rfl) (hJ Tryz.underlying3) (fun _ _=>rfl) (eQ (z:=1) rfl (by kernel_rfl) (hJ Tryz.underlying3) (fun _ _=>rfl) sO))))))) (fun _ _=>rfl)) (fun a=>Ask.mk a.1 a.2.1 a.2.2.1.1 a.2.2.1.2.1 a.2.2.2.1 a.2.2.2.2.1 a.2.2.2.2.2.1 a.2.2.2.2.2.2.1) fun a h=>⟨rfl,trivial⟩
theorem a6z:Reads Tryz.prog 64 APP (fun _=>True) :=
 Reads.map (oP Tryz.underlying64 (eQ (z:=1) rfl (by kernel_rfl) (hJ Tryz.underlying3) (fun _ _=>rfl) (eQ (z:=1) rfl (by kernel_rfl) (hJ Tryz.underlying3) (fun _ _=>rfl) (eQ (z:=1) rfl (by kernel_rfl) (b8X Tryz.underlying9) (fun _ _=>rfl) (eQ (z:=1) rfl (by kernel_rfl) (hJ Tryz.underlying3) (fun _ _=>rfl) (eQ (z:=1) rfl (by kernel_rfl) (hJ Tryz.underlying3) (fun _ _=>rfl) (eQ (z:=2) rfl (by kernel_rfl) (oP Tryz.underlying27 (eQ (z:=1) rfl (by kernel_rfl) (hJ Tryz.underlying3) (fun _ _=>rfl) (eQ (z:=1) rfl (by kernel_rfl) (hJ Tryz.underlying3) (fun _ _=>rfl) sO)) (fun _ _=>rfl)) (fun _ _=>rfl) (eQ (z:=1) rfl (by kernel_rfl) (sN (z:=8) Tryz.underlying62 (by kernel_rfl) (by omega) a6y (fun _ _=>rfl)) (fun _ _=>rfl) (eQ (z:=1) rfl (by kernel_rfl) (hJ Tryz.underlying3) (fun _ _=>rfl) (eQ (z:=1) rfl (by kernel_rfl) (hJ Tryz.underlying3) (fun _ _=>rfl) (eQ (z:=1) rfl (by kernel_rfl) (aAb Tryz.underlying22 Tryz.underlying3 (by kernel_rfl)) (fun _ _=>rfl) (eQ (z:=1) rfl (by kernel_rfl) (aAb Tryz.underlying22 Tryz.underlying3 (by kernel_rfl)) (fun _ _=>rfl) (eQ (z:=1) rfl (by kernel_rfl) (aAb Tryz.underlying22 Tryz.underlying3 (by kernel_rfl)) (fun _ _=>rfl) (eQ (z:=1) rfl (by kernel_rfl) (aAb Tryz.underlying22 Tryz.underlying3 (by kernel_rfl)) (fun _ _=>rfl) sO))))))))))))) (fun _ _=>rfl)) (fun a=>App.mk a.1 a.2.1 a.2.2.1 a.2.2.2.1 a.2.2.2.2.1 a.2.2.2.2.2.1.1 a.2.2.2.2.2.1.2.1 a.2.2.2.2.2.2.1 a.2.2.2.2.2.2.2.1 a.2.2.2.2.2.2.2.2.1 a.2.2.2.2.2.2.2.2.2.1 a.2.2.2.2.2.2.2.2.2.2.1 a.2.2.2.2.2.2.2.2.2.2.2.1 a.2.2.2.2.2.2.2.2.2.2.2.2.1) fun a h=>⟨rfl,trivial⟩
theorem a6r (x:Scr) (a:App) (g:Bool) (k:Int):aW Tryz.prog 7 [SCR x,APP a,.bool g,.int .i64 k] [] fun y _=>y= .bool true:=aGb x (a6H x a g k) rfl fun y hy=>by subst hy;exact ⟨rfl,rfl⟩
end Go.Proofs.YtakemdamegfcfaaGreat
