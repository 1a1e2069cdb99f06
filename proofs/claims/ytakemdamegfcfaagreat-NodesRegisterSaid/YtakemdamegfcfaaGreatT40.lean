/- A part of a proof: what functions of the program compute. No condition. -/
import Derived.Test.YtakemdamegfcfaaGreatT39
set_option linter.unusedSimpArgs false
set_option linter.unusedVariables false
set_option maxRecDepth 20000
namespace Go.Proofs.YtakemdamegfcfaaGreat
open Go Go.Ab
theorem aYs {a b c d n:Int} (i:Nat) (ha:0<=a/\a<=n) (hb:0<=b/\b<=n) (hc:0<=c/\c<=n) (hd:0<=d/\d<=n):0<=[a,b,c,d].getD i 0/\[a,b,c,d].getD i 0<=n:=by
 match i with
 | 0=>exact ha
 | 1=>exact hb
 | 2=>exact hc
 | 3=>exact hd
 | k+4=>simp;omega
set_option maxHeartbeats 16000000 in
theorem aVa (g:GP) (h:aBm g) (ks:List (List UInt8)) (hks:ks.length<=7) (i k:Nat) (hi:i<=7) (hk:k<g.labs.length) (cs:Nat->List Cap) (hc0:∀ q,(cs q).length=g.labs.length) (Q:AE->St->Prop)
 (hQ:∀ (lf:Int) (cs':Nat->List Cap),(∀ q,(cs' q).length=g.labs.length)->Q (.exit 8) ⟨[(1,.sl true 1 (g.ns.map I64)),(4,.ref 0 0 0),(6,.ref 1 0 0),(7,.sl false 1 (g.pl.map .str)),(11,.int .i64 (i:Int)),(12,.sl false 1 (ks.map .str)),(13,.int .i64 (k:Int)),(14,.int .i64 lf),(15,.int .i64 (ks.length:Int)),(108,.bool false)],g.H cs' []⟩) (s0:St) (hs0:Sub 0 (dM (some [1,4,6,7,11,12,13,14,15]) s0) ⟨[(1,.sl true 1 (g.ns.map I64)),(4,.ref 0 0 0),(6,.ref 1 0 0),(7,.sl false 1 (g.pl.map .str)),(11,.int .i64 (i:Int)),(12,.sl false 1 (ks.map .str)),(13,.int .i64 (k:Int)),(14,.int .i64 10000),(15,.int .i64 (((0:Nat):Int)))],g.H cs []⟩) :
 aw Tryz.prog (.loop 0 (some [1,4,6,7,11,12,13,14,15]) aAW) Q s0:=by
 refine aF (σ:=Nat×Int×(Nat->List Cap)) (fun q=>⟨[(1,.sl true 1 (g.ns.map I64)),(4,.ref 0 0 0),(6,.ref 1 0 0),(7,.sl false 1 (g.pl.map .str)),(11,.int .i64 (i:Int)),(12,.sl false 1 (ks.map .str)),(13,.int .i64 (k:Int)),(14,.int .i64 q.2.1),(15,.int .i64 (q.1:Int))],g.H q.2.2 []⟩) (fun q=>q.1<=ks.length/\0<=q.2.1/\q.2.1<=10000/\∀ w,(q.2.2 w).length=g.labs.length) (fun q=>ks.length-q.1) (0,10000,cs) hs0 ⟨by simp,by simp,by simp,hc0⟩ ?_
 rintro ⟨j,left,cz⟩ ⟨hj,hl0,hl1,hcs⟩
 clear hc0 hs0
 simp only at hj hl0 hl1 hcs ⊢
 unfold aAW
 have hl2:=h.labs
 have hl:=h.l
 by_cases hjk:j<ks.length
 · obtain ⟨v1,c1⟩:=rJ g.ns (i+j+k) h.ns
   rw [show (((i+j+k:Nat)):Int)=(i:Int)+j+k by omega] at c1
   obtain ⟨x1,w1a,w1b,c2⟩:=tB v1 (left+1) (by omega) (by omega)
   have hij:i*j<=7*7:=Nat.mul_le_mul hi (by omega)
   obtain ⟨v3,c3⟩:=rJ g.ns (i*j+k) h.ns
   rw [show (((i*j+k:Nat)):Int)=(i:Int)*j+k by rw [Int.natCast_add,Int.natCast_mul]] at c3
   obtain ⟨x4,w4a,w4b,c4⟩:=tB v3 4 (by omega) (by omega)
   have hij2:0<=(i:Int)*j/\(i:Int)*j<=49:=by
    have:((i*j:Nat):Int)=(i:Int)*j:=Int.natCast_mul i j
    omega
   obtain ⟨h2,hw2,h20,h21⟩:=aMW left hl0 hl1
   have hx:=aYs (n:=left) (a:=0) (b:=h2) (c:=left) (d:=x1) x4.toNat (by omega) (by omega) (by omega) (by omega)
   by_cases hlast:(j:Int)<(ks.length:Int)-1
   · have mm:=mid g h ks hks i j k left ([0,h2,left,x1].getD x4.toNat 0) hi hjk hk hx.1 hx.2 hl1 cz
     have gd:=aIs g hl ks i k
     obtain ⟨ns,labs,pl,r,ps,us,l⟩:=g
     simp only at hl hcs hk c1 c3 hl2 mm gd
     cases hl
     all_goals
      simp only [GP.H,gQ,gA,List.cons_append,List.nil_append,List.length_cons,List.length_nil] at mm gd ⊢
      simp -implicitDefEqProofs(disch:=first|decide|omega)only[↓aA,aC,aB,simprocAttr,hw2]
      refine aE (aI.of (aM:=false) (c1) (.refl rfl) rfl (by simp)) ?_
      simp -implicitDefEqProofs(disch:=first|decide|omega)only[↓aA,aC,aB,simprocAttr,hw2]
      refine aE (aI.of (aM:=false) (c2) (.refl rfl) rfl (by simp)) ?_
      simp -implicitDefEqProofs(disch:=first|decide|omega)only[↓aA,aC,aB,simprocAttr,hw2]
      refine aE (aI.of (aM:=false) (c3) (.refl rfl) rfl (by simp)) ?_
      simp -implicitDefEqProofs(disch:=first|decide|omega)only[↓aA,aC,aB,simprocAttr]
      refine aE (aI.of (aM:=false) (c4) (.refl rfl) rfl (by simp)) ?_
      simp -implicitDefEqProofs(disch:=first|decide|omega)only[↓aA,aC,aB,simprocAttr,aYM]
      repeat (refine And.intro (by omega) ?_)
      refine mm _ (.inr ⟨_,rfl⟩) hcs _ fun cs' T' hcs'=>?_
      simp -implicitDefEqProofs(disch:=first|decide|omega)only[↓aA,aC,aB,simprocAttr]
      exact ⟨(j+1,left-[0,h2,left,x1].getD x4.toNat 0,cs'),gd _ _ _ _,⟨by simp only;omega,by simp only;omega,by simp only;omega,hcs'⟩,by simp only;omega⟩
   · simp -implicitDefEqProofs(disch:=first|decide|omega)only[↓aA,aC,aB,simprocAttr]
     refine mid g h ks hks i j k left left hi hjk hk hl0 (Int.le_refl _) hl1 cz [] (.inl rfl) hcs _ fun cs' T' hcs'=>?_
     simp -implicitDefEqProofs(disch:=first|decide|omega)only[↓aA,aC,aB,simprocAttr]
     exact ⟨(j+1,0,cs'),aIs g hl ks i k _ _ _ _,⟨by simp only;omega,by simp only;omega,by simp only;omega,hcs'⟩,by simp only;omega⟩
 · have:j=ks.length:=by omega
   subst this
   simp -implicitDefEqProofs(disch:=first|decide|omega)only[↓aA,aC,aB,simprocAttr]
   exact hQ left cz hcs
set_option maxHeartbeats 16000000 in
theorem aU9 (g:GP) (h:aBm g) (ks:List (List UInt8)) (hks:ks.length<=7) (i:Nat) (hi:i<=7) (cs:Nat->List Cap) (hc0:∀ q,(cs q).length=g.labs.length) (Q:AE->St->Prop)
 (hQ:∀ cs':Nat->List Cap,(∀ q,(cs' q).length=g.labs.length)->Q (.exit 6) ⟨[(1,.sl true 1 (g.ns.map I64)),(4,.ref 0 0 0),(6,.ref 1 0 0),(7,.sl false 1 (g.pl.map .str)),(11,.int .i64 (i:Int)),(12,.sl false 1 (ks.map .str)),(13,.int .i64 (g.labs.length:Int)),(102,.bool false)],g.H cs' []⟩) (s0:St) (hs0:Sub 0 (dM (some [1,4,6,7,11,12,13]) s0) ⟨[(1,.sl true 1 (g.ns.map I64)),(4,.ref 0 0 0),(6,.ref 1 0 0),(7,.sl false 1 (g.pl.map .str)),(11,.int .i64 (i:Int)),(12,.sl false 1 (ks.map .str)),(13,.int .i64 (((0:Nat):Int)))],g.H cs []⟩) :
 aw Tryz.prog (.loop 0 (some [1,4,6,7,11,12,13]) aAV) Q s0:=by
 refine aF (σ:=Nat×(Nat->List Cap)) (fun q=>⟨[(1,.sl true 1 (g.ns.map I64)),(4,.ref 0 0 0),(6,.ref 1 0 0),(7,.sl false 1 (g.pl.map .str)),(11,.int .i64 (i:Int)),(12,.sl false 1 (ks.map .str)),(13,.int .i64 (q.1:Int))],g.H q.2 []⟩) (fun q=>q.1<=g.labs.length/\∀ w,(q.2 w).length=g.labs.length) (fun q=>g.labs.length-q.1) (0,cs) hs0 ⟨by simp,hc0⟩ ?_
 rintro ⟨k,cz⟩ ⟨hk,hcs⟩
 clear hc0 hs0
 simp only at hk hcs ⊢
 unfold aAV
 have hl2:=h.labs
 by_cases hkn:k<g.labs.length
 · simp only [GP.H]
   simp -implicitDefEqProofs(disch:=first|decide|omega)only[↓aA,aC,aB,simprocAttr]
   unfold aJr
   simp -implicitDefEqProofs(disch:=first|decide|omega)only[↓aA,aC,aB,simprocAttr]
   refine aVa g h ks hks i k hi hkn cz hcs _ (fun lf cs' hcs'=>?_) _ (.inl rfl)
   simp only [GP.H]
   simp -implicitDefEqProofs(disch:=first|decide|omega)only[↓aA,aC,aB,simprocAttr]
   exact ⟨(k+1,cs'),.inl rfl,⟨by simp only;omega,hcs'⟩,by simp only;omega⟩
 · have:k=g.labs.length:=by omega
   subst this
   have e:=hQ cz hcs
   simp only [GP.H] at e ⊢
   simp -implicitDefEqProofs(disch:=first|decide|omega)only[↓aA,aC,aB,simprocAttr]
   exact e
theorem aIt (ps:Nat->List UInt8) (us:Nat->Int) (nl:Nat) (R:List AV):∀ (l:List Nat) (k:Nat) (y:AV),(flat ((l.map fun q=>(⟨ps q,.any,us q⟩:PX)).map ROW))[k]?=some y->∃ a:AV,(gQ ps us nl l++R)[k]?=some a/\((a=y/\y.mA=true)∨y= .any)
 | [],k,y,h=>by simp [flat] at h
 | q :: l,k,y,h=>by
   have e:flat (((q :: l).map fun q=>(⟨ps q,.any,us q⟩:PX)).map ROW)= .str (ps q) :: .any :: .int .i64 (us q) :: flat ((l.map fun q=>(⟨ps q,.any,us q⟩:PX)).map ROW):=rfl
   rw [e] at h
   match k,h with
   | 0,h=>simp at h;subst h;exact ⟨_,rfl,.inl ⟨rfl,rfl⟩⟩
   | 1,h=>simp at h;subst h;exact ⟨_,rfl,.inr rfl⟩
   | 2,h=>simp at h;subst h;exact ⟨_,rfl,.inl ⟨rfl,rfl⟩⟩
   | k+3,h =>
     simp only [List.getElem?_cons_succ] at h
     exact aIt ps us nl R l k y h
set_option maxHeartbeats 16000000 in
theorem aWM (g:GP) (h:aBm g) (cs:Nat->List Cap) (hc0:∀ q,(cs q).length=g.labs.length) (Q:AE->St->Prop)
 (hQ:∀ cs':Nat->List Cap,(∀ q,(cs' q).length=g.labs.length)->Q (.exit 4) ⟨[(1,.sl true 1 (g.ns.map I64)),(4,.ref 0 0 0),(6,.ref 1 0 0),(7,.sl false 1 (g.pl.map .str)),(11,.int .i64 (g.pl.length:Int)),(89,.bool false)],g.H cs' []⟩) (s0:St) (hs0:Sub 0 (dM (some [1,4,6,7,11]) s0) ⟨[(1,.sl true 1 (g.ns.map I64)),(4,.ref 0 0 0),(6,.ref 1 0 0),(7,.sl false 1 (g.pl.map .str)),(11,.int .i64 (((0:Nat):Int)))],g.H cs []⟩) :
 aw Tryz.prog (.loop 0 (some [1,4,6,7,11]) aAU) Q s0:=by
 refine aF (σ:=Nat×(Nat->List Cap)) (fun q=>⟨[(1,.sl true 1 (g.ns.map I64)),(4,.ref 0 0 0),(6,.ref 1 0 0),(7,.sl false 1 (g.pl.map .str)),(11,.int .i64 (q.1:Int))],g.H q.2 []⟩) (fun q=>q.1<=g.pl.length/\∀ w,(q.2 w).length=g.labs.length) (fun q=>g.pl.length-q.1) (0,cs) hs0 ⟨by simp,hc0⟩ ?_
 rintro ⟨i,cz⟩ ⟨hi,hcs⟩
 clear hc0 hs0
 simp only at hi hcs ⊢
 unfold aAU
 have hpl:=h.pl
 by_cases hil:i<g.pl.length
 · have hg:g.pl.getD i default=g.pl[i]:=by simp [hil]
   have hv:Vw true (g.H cz []) (.own 2 3 0 g.l.length) (.sl true 3 ((g.l.map fun q=>(⟨g.ps q,.any,g.us q⟩:PX)).map ROW)):=by
    refine Vw.aZa (cs:=gQ g.ps g.us g.labs.length g.l++List.replicate g.r .any) rfl (fun a ha=>?_) (by simp) (aIt _ _ _ _ _)
    obtain ⟨x,hx,rfl⟩:=List.mem_map.1 ha
    obtain ⟨q,hq,rfl⟩:=List.mem_map.1 hx
    rfl
   have hl7:=h.l.len.2
   have ck:=aGi false true g.labs (g.l.map fun q=>(⟨g.ps q,.any,g.us q⟩:PX)) g.pl[i] (by rw [List.length_map];omega) (fun q hq=>by
    obtain ⟨x,hx,rfl⟩:=List.mem_map.1 hq
    have:=h.ps x
    simp only
    omega)
   have hkl:(kW g.pl[i] (g.l.map fun q=>(⟨g.ps q,.any,g.us q⟩:PX))).length<=7:=by
    unfold kW
    rw [List.length_map]
    exact Nat.le_trans (List.length_filter_le _ _) (by rw [List.length_map];omega)
   generalize kW g.pl[i] (g.l.map fun q=>(⟨g.ps q,.any,g.us q⟩:PX))=ks at ck hkl
   simp only [GP.H] at hv ⊢
   simp -implicitDefEqProofs(disch:=first|decide|omega)only[↓aA,aC,aB,simprocAttr,hg]
   refine ⟨by omega,by omega,?_⟩
   refine aE (aI.of (aM:=true) ck (.cons (Vw.aZi (Vw.refl rfl) hv rfl rfl) (.cons (Vw.refl rfl) .nil)) rfl (fun _=>rfl)) ?_
   simp -implicitDefEqProofs(disch:=first|decide|omega)only[↓aA,aC,aB,simprocAttr]
   unfold aJq
   simp -implicitDefEqProofs(disch:=first|decide|omega)only[↓aA,aC,aB,simprocAttr]
   refine aU9 g h ks hkl i (by omega) cz hcs _ (fun cs' hcs'=>?_) _ (.inl rfl)
   simp only [GP.H]
   simp -implicitDefEqProofs(disch:=first|decide|omega)only[↓aA,aC,aB,simprocAttr]
   exact ⟨(i+1,cs'),.inl rfl,⟨by simp only;omega,hcs'⟩,by simp only;omega⟩
 · have:i=g.pl.length:=by omega
   subst this
   have e:=hQ cz hcs
   simp only [GP.H] at e ⊢
   simp -implicitDefEqProofs(disch:=first|decide|omega)only[↓aA,aC,aB,simprocAttr]
   exact e
end Go.Proofs.YtakemdamegfcfaaGreat
