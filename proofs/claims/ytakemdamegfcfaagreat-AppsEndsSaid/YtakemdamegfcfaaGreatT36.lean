/- A part of a proof: how code is told and stepped through. No condition. -/
import Derived.Test.YtakemdamegfcfaaGreatT5
import Derived.Lib.Overlaps
set_option linter.unusedSimpArgs false
set_option linter.unusedVariables false
namespace Go.Ab
open Go
theorem iE {P:Program} (w:World) (tS tR e:TypeId) (ht:P.underlying tS=some (.slice e)) (size:Nat) (hz:∀ w,(Go.sizeOf e).run P w= .ok size w) (A B:Option Addr) (la ca lb cb:Nat) (h:la=0∨lb=0) :
 (Extern.SlicesOverlaps.overlaps #[tS,tS] #[tR] #[.slice A la ca,.slice B lb cb]).run P w= .ok (.bool false) w:=by
 have h0:la=0∨lb=0∨size=0:=by omega
 change Sem.run P (α:=Value) (do
  let some t:=(#[tS,tS]:Array TypeId)[0]?|stuck "slices.overlaps: no parameter types"
  let .slice elem <- underlying t|stuck "slices.overlaps: slice type expected"
  let size <- sizeOf elem
  match A,B with
  | some a,some b =>
    if la=0∨lb=0∨size=0 then pure (Value.bool false)
    else if a.block !=b.block&&(<- frozen a)&&(<- frozen b) then unsupported .addressObserved
    else do
     if a.block !=b.block then do
      noView a;noView b
      if <- mayBeOne a b then return Value.bool ((<- choose (.extern "sameAddr.stringBytes" 2))==1)
     pure (Value.bool (a.block==b.block&&a.off<b.off+lb*size&&b.off<a.off+la*size))
  | _,_=>pure (Value.bool false)) w=_
 cases A<;>cases B<;>simp [run_underlying ht,hz,h0]
theorem rZ {P:Program} {f:FuncId} {fn:Func} {tS tR el:TypeId} {z i j o1 n1 o2 n2:Nat} {H:List AO} {l m:List AV} {K:AV->List AO->Prop} (hf:P.funcs[f]?=some fn) (hname:(fn.name== "runtime.NumGoroutine")=false) (hb:fn.body.isNone=true)
 (hn:Extern.findNext fn=none) (he:Extern.find fn=some (Extern.SlicesOverlaps.overlaps #[tS,tS] #[tR])) (ht:P.underlying tS=some (.slice el)) (hi0:(P.info? el).isSome=true) (hz1:z≠1) (hz0:0<z)
 (hij:i≠j) (hi:H[i]?=some (.arr z l)) (hj:H[j]?=some (.arr z m)) (hk:K (.bool false) H):zN P f [.own i z o1 n1,.own j z o2 n2] H K:=by
 intro E vs hm hl hv
 obtain ⟨ii,hii⟩:=Option.isSome_iff_exists.1 hi0
 have hsz:∀ w,(sizeOf el).run P w= .ok (P.cellsOf el) w:=fun w=>by rw [run_sizeOf _ hii]
 match vs,hl with
 | [v1,v2],_ =>
   have h1:E.VR H.length v1 (.own i z o1 n1):=hv 0 _ rfl
   have h2:E.VR H.length v2 (.own j z o2 n2):=hv 1 _ rfl
   refine ⟨.bool false,_,E,H,?_,.bool,hm,Trans.refl _ _,hk⟩
   rw [run_callFunc_extern hf hname hb hn he]
   have key:(Extern.SlicesOverlaps.overlaps #[tS,tS] #[tR] #[v1,v2]).run P E.w= .ok (.bool false) E.w:=by
    obtain ⟨_,⟨A,rfl,rfl,_⟩|⟨L,c,hL,hLz,rfl,hlen,hcap⟩⟩:=h1.cN
    · obtain ⟨_,⟨B,rfl,rfl,_⟩|⟨L',c',hL',hLz',rfl,hlen',hcap'⟩⟩:=h2.cN
      · exact iE E.w tS tR el ht _ hsz _ _ _ _ _ _ (.inl rfl)
      · exact iE E.w tS tR el ht _ hsz _ _ _ _ _ _ (.inl rfl)
    · obtain ⟨_,⟨B,rfl,rfl,_⟩|⟨L',c',hL',hLz',rfl,hlen',hcap'⟩⟩:=h2.cN
      · exact iE E.w tS tR el ht _ hsz _ _ _ _ _ _ (.inr rfl)
      · by_cases h0:n1=0∨n2=0
        · exact iE E.w tS tR el ht _ hsz _ _ _ _ _ _ h0
        · rcases hm.obj i _ hi with ⟨g1,_⟩|⟨M,u,t,fz,g1,g2,g3,g4,g5,g6,g7,g8,g9,g10,g11⟩
          · rw [hL] at g1;cases g1
          rcases hm.obj j _ hj with ⟨k1,_⟩|⟨M',u',t',fz',k1,k2,k3,k4,k5,k6,k7,k8,k9,k10,k11⟩
          · rw [hL'] at k1;cases k1
          rw [hL] at g1
          cases g1
          rw [hL'] at k1
          cases k1
          have hfz:fz.1=fz.2:=by
           rcases g11 with g|g
           · exact absurd g hz1
           · exact g
          have hc1:0<(o2+c')*z:=Nat.mul_pos (by omega) hz0
          have hfro:∀ k,E.w.frozen? ⟨L.b,k,none⟩=false:=fun k=>by
           simp only [World.frozen?,g5]
           have:¬ (fz.1<=k/\k<fz.2):=by omega
           simp
           omega
          exact Lib.run_overlaps_apart E.w tS tR el ht _ hsz _ _ _ _ _ _ (hm.inj i j _ _ L L' hij hi hj rfl rfl hL hL') t t' u.size u'.size (by simp [World.shape?,g5]) (by simp [World.shape?,k5]) (by omega) (hfro _) (hfro _)
   have hkey:(Extern.SlicesOverlaps.overlaps #[tS,tS] #[tR] [v1,v2].toArray).run P E.w= .ok (.bool false) E.w:=key
   rw [hkey]
   rfl
end Go.Ab
