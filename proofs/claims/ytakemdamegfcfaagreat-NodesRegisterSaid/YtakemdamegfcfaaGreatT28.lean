/- A part of a proof: what functions of the program compute. No condition. -/
import Derived.Test.YtakemdamegfcfaaGreatT27
import Derived.Test.YtakemdamegfcfaaGreatProg
import Derived.KernelRfl
import Derived.Test.YtakemdamegfcfaaGreatT6
import Derived.Test.YtakemdamegfcfaaGreatT12
set_option linter.unusedSimpArgs false
set_option linter.unusedVariables false
set_option maxHeartbeats 16000000
set_option maxRecDepth 100000
namespace Go.Proofs.YtakemdamegfcfaaGreat
open Go Go.Ab
theorem yP (c:UInt8) (s:List UInt8):∀ n,n<=s.length->0<=lW c s n->s.getD (lW c s n).toNat 0=c
 | 0,_,h=>by simp [lW] at h
 | n+1,hn,h=>by
   unfold lW at h ⊢
   split
   · rename_i hc
     simpa using hc
   · rename_i hc
     rw [if_neg hc] at h
     exact yP c s n (by omega) h
theorem aBa {s p:List UInt8} (hp:p≠[]) (h:(dH s).1=p):p.count 46+1<=s.count 46:=by
 unfold dH at h
 split at h
 · exact absurd h.symm hp
 · rename_i hd
   have hr:=zA s
   have ha:=yP dot s s.length (Nat.le_refl _) (by unfold wO at hd;omega)
   change s.getD (wO s).toNat 0=dot at ha
   generalize hk:(wO s).toNat=k at h ha
   have hkl:k<s.length:=by omega
   rw [List.getD_eq_getElem?_getD,List.getElem?_eq_getElem hkl,Option.getD_some] at ha
   simp only at h
   have e:s=p++(s[k] :: s.drop (k+1)):=by rw [<- h,List.getElem_cons_drop,List.take_append_drop]
   have e2:=congrArg (List.count 46) e
   rw [List.count_append,ha] at e2
   unfold dot at e2
   rw [List.count_cons_self] at e2
   omega
theorem yR {ls:List (List UInt8)} {qs:List Queue} (hq:QA ls qs) {p x:List UInt8} (hx:x∈eT p qs):p.count 46+1<=x.count 46/\x.count 46<=3/\x.length<=60:=by
 obtain ⟨y,hy,rfl⟩:=List.mem_map.1 hx
 obtain ⟨hy1,hy2⟩:=List.mem_filter.1 hy
 unfold wJ at hy2
 simp only [Bool.and_eq_true,Bool.not_eq_true',beq_iff_eq,beq_eq_false_iff_ne] at hy2
 have hpp:=hq.dots y hy1
 exact ⟨aBa hy2.1 hy2.2,hpp.1,hpp.2⟩
def aME (n:Nat) (y:AV):Prop:=∃ l:List (List UInt8),y= .sl false 1 (l.map .str)/\l.length<=16^n/\∀ x∈l,x.length<=60
set_option maxHeartbeats 1000000 in
theorem vN (s:Sta) (h:ST s) (hq:QA s.labels s.qs) (k:Int):∀ (n:Nat),n<=3->∀ (p:List UInt8),p.length<=60->3-p.count 46=n->aW Tryz.prog 234 [.agg (stC s),.str p,.int .i64 k] [] fun y _=>aME n y
 | n,hn,p,hp,hd=>by
   refine cX (aK aVS (by simp) ?_)
   unfold aOG
   simp -implicitDefEqProofs(disch:=first|decide|omega)only[↓aA,aC,aB,simprocAttr,bB]
   refine aH (aHj s h hq p hp k) rfl (by rintro _ ⟨_,rfl,_⟩;rfl) ?_
   rintro _ ⟨K,rfl,hK,hm⟩
   have hK16:K.length<=16:=by
    rw [hK]
    unfold eT
    rw [List.length_map]
    exact Nat.le_trans (List.length_filter_le _ _) h.c.q3
   have hkd:∀ x∈K,_:=fun x hx=>yR hq (hm x hx)
   by_cases h0:K=[]
   · subst h0
     simp -implicitDefEqProofs(disch:=first|decide|omega)only[↓aA,aC,aB,simprocAttr,bB]
     exact ⟨_,.refl _,[p],rfl,Nat.one_le_pow _ _ (by decide),by simpa using hp⟩
   have hpos:0<K.length:=List.length_pos_iff.2 h0
   have hd0:=hkd K[0] (List.getElem_mem hpos)
   obtain ⟨m,rfl⟩:∃ m,n=m+1:=⟨n-1,by omega⟩
   simp -implicitDefEqProofs(disch:=first|decide|omega)only[↓aA,aC,aB,simprocAttr,bB]
   unfold aCq
   simp -implicitDefEqProofs(disch:=first|decide|omega)only[↓aA,aC,aB,simprocAttr]
   generalize hM:16^m=M
   refine aF (σ:=Nat×List (List UInt8)) (fun q=>⟨[(2,.int .i64 k),(3,.ref 0 0 0),(7,.sl false 1 (K.map .str)),(8,.own 1 1 0 q.2.length),(9,.int .i64 (q.1:Int))],[.box (stC s),.arr 1 (q.2.map .str)]⟩) (fun q=>q.1<=K.length/\q.2.length<=q.1*M/\∀ x∈q.2,x.length<=60) (fun q=>K.length-q.1) (0,[]) ?_ ⟨by simp,by simp,by simp⟩ ?_
   · (refine Sub.of0 [some 0,none] rfl ?_ rfl ?_<;>repeat' first|trivial|rfl|exact .inl rfl|exact .inr ⟨rfl,_,_,rfl⟩|(simp;done)|(simp;omega)|refine And.intro ?_ ?_)
   rintro ⟨i,L⟩ ⟨hi,hL,hm⟩
   simp only at hi hL hm
   unfold aCp
   by_cases hik:i<K.length
   · have hg:K.getD i default=K[i]:=by simp [hik]
     have hkk:=hkd K[i] (List.getElem_mem hik)
     have hpw:(16:Nat)^(3-K[i].count 46)<=16^m:=Nat.pow_le_pow_right (by decide) (by omega)
     have hpm:(16:Nat)^m<=16^2:=Nat.pow_le_pow_right (by decide) (by omega)
     rw [hM] at hpw hpm
     have hmi:i*M<=16*M:=Nat.mul_le_mul_right _ (by omega)
     simp -implicitDefEqProofs(disch:=first|decide|omega)only[↓aA,aC,aB,simprocAttr,bB,hg]
     repeat refine And.intro (by omega) ?_
     refine aH (vN s h hq k (3-K[i].count 46) (by omega) K[i] hkk.2.2 rfl) rfl (by rintro _ ⟨_,rfl,_⟩;rfl) ?_
     rintro _ ⟨l,rfl,hl1,hl2⟩
     simp -implicitDefEqProofs(disch:=first|decide|omega)only[↓aA,aC,aB,simprocAttr,bB]
     repeat refine And.intro (by omega) ?_
     refine ⟨(i+1,L++l),?_,⟨by simp only;omega,?_,fun x hx=>(List.mem_append.1 hx).elim (hm x) (hl2 x)⟩,by simp only;omega⟩
     · simp only [List.length_append]
       (refine Sub.of0 [some 0,some 2] rfl ?_ rfl ?_<;>repeat' first|trivial|rfl|exact .inl rfl|exact .inr ⟨rfl,_,_,rfl⟩|(simp;done)|(simp;omega)|refine And.intro ?_ ?_)
     · simp only [List.length_append]
       rw [Nat.add_mul,Nat.one_mul]
       omega
   · simp -implicitDefEqProofs(disch:=first|decide|omega)only[↓aA,aC,aB,simprocAttr,bB]
     refine ⟨_,.refl _,L,rfl,Nat.le_trans hL ?_,hm⟩
     rw [Nat.pow_succ,hM,Nat.mul_comm M]
     exact Nat.mul_le_mul_right _ (by omega)
termination_by n=>n
decreasing_by omega
def a0u:{c:CC // aJ Tryz.prog 221=c}:=⟨_,by conv=>lhs;reduce⟩
def aKt:{c:CC // bA Tryz.prog 221 { fz:=[(false,80,[77,78,79])] } a0u.1 [([1,1,1,1,0,1,0,0,1,0,0,0],(.f [0,2,3,4,6,1005,1,7,8,9,10,11])),([1,1,1,1,0,1,0,0,1,0,0,1,0],(.f [0,2,3,4,6,1005,1,7,8,9,10,11])),([1,1,1,1,0,1,0,0,1,0,0,1,1],(.f [0,2,3,4,6,10,11,12,14,1005,1013,1,9,2007,8,2015,16,17,18,19,20])),([1,1,1,1,1,1,1,0,1,0,0,1,0,0],(.f [0,2,3,4,6,7,8,9,1005,1010,1,11,12,13]))]=c}:=⟨_,by conv=>lhs;reduce⟩
def aBT:CC:=(fun (c:CC) (_:(aKt.1.aV [1,1,1,1,1,1,1,0,1,0,0])=c)=>c) _ (by conv=>lhs;reduce)
def aBV:CC:=(fun (c:CC->CC) (_:(fun a0=>(aKt.1.aV [1,1,1,1,1,1,1,0,1]).aU [0,0] a0)=c)=>c) _ (by conv=>lhs;reduce) aBT
def aBS:CC:=(fun (c:CC) (_:(aKt.1.aV [1,1,1,1,0,1,0,0])=c)=>c) _ (by conv=>lhs;reduce)
def aBU:CC:=(fun (c:CC->CC) (_:(fun a0=>(aKt.1.aV [1,1,1,1,0,1]).aU [0,0] a0)=c)=>c) _ (by conv=>lhs;reduce) aBS
def aOg:CC:=(fun (c:CC->CC->CC) (_:(fun a0 a1=>((aKt.1).aU [1,1,1,1,0,1] a0).aU [1,1,1,1,1,1,1,0,1] a1)=c)=>c) _ (by conv=>lhs;reduce) aBU aBV
theorem aRx:aZ Tryz.prog 221 aOg [8] 101:=aZ.mk (by kernel_rfl) ⟨Tryz.f221,_,Tryz.func221,rfl,by kernel_rfl,by kernel_rfl,by kernel_rfl,by kernel_rfl,by kernel_rfl⟩
def a0e:{c:CC // aJ Tryz.prog 239=c}:=⟨_,by conv=>lhs;reduce⟩
def aKs:{c:CC // bA Tryz.prog 239 {} a0e.1 [([1,1,1,1,0,1,0,0,1,0,0,0],(.f [0,1,2,5,6,7,10,11,12,15,1003,1008,1013,4,9,14,16,17])),([1,1,1,1,1,0,1,0,0,1,0,0,0],(.f [0,1,2,5,6,7,11,12,13,17,3,8,14,2004,2009,10,15,16,18,19]))]=c}:=⟨_,by conv=>lhs;reduce⟩
def aCe:CC:=(fun (c:CC) (_:(aKs.1.aV [1,1,1,1,1,0,1,0,0])=c)=>c) _ (by conv=>lhs;reduce)
def aCg:CC:=(fun (c:CC->CC) (_:(fun a0=>(aKs.1.aV [1,1,1,1,1,0,1]).aU [0,0] a0)=c)=>c) _ (by conv=>lhs;reduce) aCe
def aCd:CC:=(fun (c:CC) (_:(aKs.1.aV [1,1,1,1,0,1,0,0])=c)=>c) _ (by conv=>lhs;reduce)
def aCf:CC:=(fun (c:CC->CC) (_:(fun a0=>(aKs.1.aV [1,1,1,1,0,1]).aU [0,0] a0)=c)=>c) _ (by conv=>lhs;reduce) aCd
def aOB:CC:=(fun (c:CC->CC->CC) (_:(fun a0 a1=>((aKs.1).aU [1,1,1,1,0,1] a0).aU [1,1,1,1,1,0,1] a1)=c)=>c) _ (by conv=>lhs;reduce) aCf aCg
theorem aVO:aZ Tryz.prog 239 aOB [8] 91:=aZ.mk (by kernel_rfl) ⟨Tryz.f239,_,Tryz.func239,rfl,by kernel_rfl,by kernel_rfl,by kernel_rfl,by kernel_rfl,by kernel_rfl⟩
def aWL (n:Nat) (y:AV):Prop:=∃ l:List Int,y= .sl false 1 (l.map I64)/\l.length=n
theorem iG {m:Bool} {k:IntKind} {a:Int} {K:AV->Prop}:mmK m k a [] K=cM (.int k a) K:=rfl
theorem kC {k:IntKind} {a b:Int} {r:List AV} {K:AV->Prop}:mmK false k a (.int k b :: r) K=mmK false k (min a b) r K:=by
 have:(if b<a then b else a)=min a b:=by omega
 simp only [mmK,true_and,Bool.false_eq_true,if_false,this]
theorem kB {k:IntKind} {a b:Int} {r:List AV} {K:AV->Prop}:mmK true k a (.int k b :: r) K=mmK true k (max a b) r K:=by
 have:(if b>a then b else a)=max a b:=by omega
 simp only [mmK,true_and,if_true,this]
theorem eG (x:Int):(I64 x).cells=[.int .i64 x]:=rfl
set_option maxHeartbeats 1000000 in
theorem aGC (t:Int) (A B C:List Int) (n:Nat) (ha:A.length=n) (hb:B.length=n) (hc:C.length=n) (hn:n<=16):aW Tryz.prog 239 [.int .i64 t,.sl false 1 (A.map I64),.sl false 1 (B.map I64),.sl false 1 (C.map I64)] [] fun y _=>aWL n y:=by
 refine cX (aK aVO (by simp) ?_)
 unfold aOB
 simp -implicitDefEqProofs(disch:=first|decide|omega)only[↓aA,aC,aB,simprocAttr,bB,eG,kC,kB,iG,Int.min_self,Nat.min_self,ha,hb,hc]
 refine aH (aE7 t) rfl (by rintro _ ⟨_,rfl⟩;rfl) ?_
 rintro _ ⟨left,rfl⟩
 simp -implicitDefEqProofs(disch:=first|decide|omega)only[↓aA,aC,aB,simprocAttr,bB,eG,kC,kB,iG,Int.min_self,Nat.min_self]
 unfold aCf
 simp -implicitDefEqProofs(disch:=first|decide|omega)only[↓aA,aC,aB,simprocAttr]
 refine aF (σ:=Nat×List Int×Int) (fun q=>⟨[(1,.sl false 1 (A.map I64)),(2,.sl false 1 (B.map I64)),(3,.sl false 1 (C.map I64)),(9,.int .i64 (n:Int)),(10,.int .i64 q.2.2),(11,.own 0 1 0 q.2.1.length),(12,.int .i64 (q.1:Int))],[.arr 1 (q.2.1.map I64)]⟩) (fun q=>q.1<=n/\q.2.1.length=q.1) (fun q=>n-q.1) (0,[],left) ?_ ⟨by simp,by simp⟩ ?_
 · (refine Sub.of0 [none] rfl ?_ rfl ?_<;>repeat' first|trivial|rfl|exact .inl rfl|exact .inr ⟨rfl,_,_,rfl⟩|(simp;done)|(simp;omega)|refine And.intro ?_ ?_)
 rintro ⟨i,L,left⟩ ⟨hi,hL⟩
 simp only at hi hL
 unfold aCd
 by_cases hik:i<n
 · have ga:A.getD i default=A[i]:=by simp [ha,hik]
   have gb:B.getD i default=B[i]:=by simp [hb,hik]
   have gc:C.getD i default=C[i]:=by simp [hc,hik]
   simp -implicitDefEqProofs(disch:=first|decide|omega)only[↓aA,aC,aB,simprocAttr,bB,eG,kC,kB,iG,Int.min_self,Nat.min_self,ga,gb,gc,ha,hb,hc]
   repeat refine And.intro (by omega) ?_
   refine aH (aE7 _) rfl (by rintro _ ⟨_,rfl⟩;rfl) ?_
   rintro _ ⟨n1,rfl⟩
   simp -implicitDefEqProofs(disch:=first|decide|omega)only[↓aA,aC,aB,simprocAttr,bB,eG,kC,kB,iG,Int.min_self,Nat.min_self]
   refine aH (aE7 _) rfl (by rintro _ ⟨_,rfl⟩;rfl) ?_
   rintro _ ⟨n2,rfl⟩
   simp -implicitDefEqProofs(disch:=first|decide|omega)only[↓aA,aC,aB,simprocAttr,bB,eG,kC,kB,iG,Int.min_self,Nat.min_self]
   refine aH (aE7 _) rfl (by rintro _ ⟨_,rfl⟩;rfl) ?_
   rintro _ ⟨n3,rfl⟩
   simp -implicitDefEqProofs(disch:=first|decide|omega)only[↓aA,aC,aB,simprocAttr,bB,eG,kC,kB,iG,Int.min_self,Nat.min_self]
   repeat refine And.intro (by omega) ?_
   generalize min (min (min n1 n2) n3) left=v
   refine ⟨(i+1,L++[v],IntKind.i64.wrap (left-v)),?_,⟨by simp only;omega,by simp;omega⟩,by simp only;omega⟩
   simp only [List.map_append,List.map_cons,List.map_nil,List.length_append,List.length_cons,List.length_nil]
   (refine Sub.of0 [some 2] rfl ?_ rfl ?_<;>repeat' first|trivial|rfl|exact .inl rfl|exact .inr ⟨rfl,_,_,rfl⟩|(simp;done)|(simp;omega)|refine And.intro ?_ ?_)
 · simp -implicitDefEqProofs(disch:=first|decide|omega)only[↓aA,aC,aB,simprocAttr,bB,eG,kC,kB,iG,Int.min_self,Nat.min_self]
   unfold aCg
   simp -implicitDefEqProofs(disch:=first|decide|omega)only[↓aA,aC,aB,simprocAttr]
   have:i=n:=by omega
   subst this
   refine aF (σ:=Nat×List Int×Int) (fun q=>⟨[(2,.sl false 1 (B.map I64)),(3,.sl false 1 (C.map I64)),(9,.int .i64 (i:Int)),(10,.int .i64 q.2.2),(11,.own 0 1 0 i),(14,.int .i64 (q.1:Int))],[.arr 1 (q.2.1.map I64)]⟩) (fun q=>q.1<=i/\q.2.1.length=i) (fun q=>i-q.1) (0,L,left) ?_ ⟨by simp,hL⟩ ?_
   · simp only [hL]
     (refine Sub.of0 [some 0] rfl ?_ rfl ?_<;>repeat' first|trivial|rfl|exact .inl rfl|exact .inr ⟨rfl,_,_,rfl⟩|(simp;done)|(simp;omega)|refine And.intro ?_ ?_)
   rintro ⟨j,L,left⟩ ⟨hj,hL⟩
   simp only at hj hL
   unfold aCe
   by_cases hjk:j<i
   · have gb:B.getD j default=B[j]:=by simp [hb,hjk]
     have gc:C.getD j default=C[j]:=by simp [hc,hjk]
     have gl:L.getD j default=L[j]:=by simp [hL,hjk]
     simp -implicitDefEqProofs(disch:=first|decide|omega)only[↓aA,aC,aB,simprocAttr,bB,eG,kC,kB,iG,Int.min_self,Nat.min_self,gb,gc,gl,hb,hc,hL]
     repeat refine And.intro (by omega) ?_
     refine a7 (aE7 _) rfl (by rintro _ ⟨_,rfl⟩;rfl) ?_
     rintro _ ⟨n1,rfl⟩
     simp -implicitDefEqProofs(disch:=first|decide|omega)only[↓aA,aC,aB,simprocAttr,bB,eG,kC,kB,iG]
     refine a7 (aE7 _) rfl (by rintro _ ⟨_,rfl⟩;rfl) ?_
     rintro _ ⟨n2,rfl⟩
     simp -implicitDefEqProofs(disch:=first|decide|omega)only[↓aA,aC,aB,simprocAttr,bB,eG,kC,kB,iG,gl,hL]
     repeat refine And.intro (by omega) ?_
     have eu:∀ v:Int,(L.map I64).set j (dS ((L.map I64).getD j .top) 0 1 [.int .i64 v])=(L.set j v).map I64:=fun v=>aKF
     rw [eu]
     generalize min (max (IntKind.i64.wrap (min n1 n2-L[j])) 0) left=v
     refine ⟨(j+1,L.set j (IntKind.i64.wrap (L[j]+v)),IntKind.i64.wrap (left-v)),?_,⟨by simp only;omega,by simp;omega⟩,by simp only;omega⟩
     exact .inl rfl
   · simp -implicitDefEqProofs(disch:=first|decide|omega)only[↓aA,aC,aB,simprocAttr,bB,hL]
     rw [List.take_of_length_le (Nat.le_of_eq hL)]
     exact ⟨_,.refl _,L,rfl,hL⟩
def aQt (a:AV):Prop:=∃ (p:List UInt8) (m:Int),a= .agg [.str p,.int .i64 m]/\p.length<=60
def aKT (n:Nat) (y:AV):Prop:=∃ l:List AV,y= .sl false 2 l/\l.length<=16^n/\∀ x∈l,aQt x
set_option maxHeartbeats 1000000 in
theorem uU (s:Sta) (h:ST s) (hq:QA s.labels s.qs) (k:Int):∀ (n:Nat),n<=3->∀ (p:List UInt8),p.length<=60->3-p.count 46=n->∀ (mem:Int),aW Tryz.prog 221 [.agg (stC s),.str p,.int .i64 k,.int .i64 mem] [] fun y _=>aKT n y
 | n,hn,p,hp,hd,mem=>by
   have hz:QZ s.qs:=h.c.qz
   refine cX (aK aRx (by simp) ?_)
   unfold aOg
   have c110:=oQ s.labels s.qs hz p
   unfold bN at c110
   have hK16:(eT p s.qs).length<=16:=by
    unfold eT
    rw [List.length_map]
    exact Nat.le_trans (List.length_filter_le _ _) h.c.q3
   have hkd:∀ x∈eT p s.qs,_:=fun x hx=>yR hq hx
   generalize eT p s.qs=K at c110 hK16 hkd ⊢
   simp -implicitDefEqProofs(disch:=first|decide|omega)only[↓aA,aC,aB,simprocAttr,bB]
   refine aE (aI.of (aM:=false) (c110) (.refl rfl) rfl (by simp)) ?_
   by_cases h0:K=[]
   · subst h0
     simp -implicitDefEqProofs(disch:=first|decide|omega)only[↓aA,aC,aB,simprocAttr,bB]
     exact ⟨_,.refl _,[_],rfl,Nat.one_le_pow _ _ (by decide),fun x hx=>by rw [List.mem_singleton.1 hx];exact ⟨p,mem,rfl,hp⟩⟩
   have hpos:0<K.length:=List.length_pos_iff.2 h0
   have hd0:=hkd K[0] (List.getElem_mem hpos)
   obtain ⟨m,rfl⟩:∃ m,n=m+1:=⟨n-1,by omega⟩
   simp -implicitDefEqProofs(disch:=first|decide|omega)only[↓aA,aC,aB,simprocAttr,bB]
   unfold aBU
   simp -implicitDefEqProofs(disch:=first|decide|omega)only[↓aA,aC,aB,simprocAttr]
   refine aF (σ:=Nat×List Int×List Int×List Int) (fun q=>⟨[(2,.int .i64 k),(3,.int .i64 mem),(4,.ref 0 0 0),(9,.sl false 1 (K.map .str)),(10,.own 1 1 0 q.2.1.length),(11,.own 2 1 0 q.2.2.1.length),(12,.own 3 1 0 q.2.2.2.length),(13,.int .i64 (q.1:Int))],[.box (stC s),.arr 1 (q.2.1.map I64),.arr 1 (q.2.2.1.map I64),.arr 1 (q.2.2.2.map I64)]⟩) (fun q=>q.1<=K.length/\q.2.1.length=q.1/\q.2.2.1.length=q.1/\q.2.2.2.length=q.1) (fun q=>K.length-q.1) (0,[],[],[]) ?_ ⟨by simp,by simp,by simp,by simp⟩ ?_
   · (refine Sub.of0 [some 0,none,none,none] rfl ?_ rfl ?_<;>repeat' first|trivial|rfl|exact .inl rfl|exact .inr ⟨rfl,_,_,rfl⟩|(simp;done)|(simp;omega)|refine And.intro ?_ ?_)
   rintro ⟨i,A,B,C⟩ ⟨hi,hA,hB,hC⟩
   simp only at hi hA hB hC
   unfold aBS
   by_cases hik:i<K.length
   · have hg:K.getD i default=K[i]:=by simp [hik]
     have hkk:=hkd K[i] (List.getElem_mem hik)
     simp -implicitDefEqProofs(disch:=first|decide|omega)only[↓aA,aC,aB,simprocAttr,bB,hg]
     repeat refine And.intro (by omega) ?_
     refine aH (uI h hq K[i] hkk.2.2 k) rfl (by rintro _ ⟨_,_,rfl⟩;rfl) ?_
     rintro _ ⟨a1,a2,rfl⟩
     simp -implicitDefEqProofs(disch:=first|decide|omega)only[↓aA,aC,aB,simprocAttr,bB,hg]
     repeat refine And.intro (by omega) ?_
     refine aH (aQH h hq K[i] hkk.2.2 k) rfl (by rintro _ ⟨_,_,rfl⟩;rfl) ?_
     rintro _ ⟨b1,b2,rfl⟩
     simp -implicitDefEqProofs(disch:=first|decide|omega)only[↓aA,aC,aB,simprocAttr,bB,hg]
     repeat refine And.intro (by omega) ?_
     refine a7 (pV h K[i] hkk.2.2 k) rfl (by rintro _ ⟨_,_,rfl⟩;rfl) ?_
     rintro _ ⟨c1,c2,rfl⟩
     simp -implicitDefEqProofs(disch:=first|decide|omega)only[↓aA,aC,aB,simprocAttr,bB,hg]
     refine a7 (aUK h K[i] hkk.2.2 k) rfl (by rintro _ ⟨_,_,rfl⟩;rfl) ?_
     rintro _ ⟨d1,d2,rfl⟩
     simp -implicitDefEqProofs(disch:=first|decide|omega)only[↓aA,aC,aB,simprocAttr,bB,hg]
     repeat refine And.intro (by omega) ?_
     refine ⟨(i+1,A++[a1],B++[IntKind.i64.wrap (c1+d1)],C++[b1]),?_,⟨by simp only;omega,by simp;omega,by simp;omega,by simp;omega⟩,by simp only;omega⟩
     simp only [List.map_append,List.map_cons,List.map_nil,List.length_append,List.length_cons,List.length_nil]
     (refine Sub.of0 [some 0,some 5,some 9,some 7] rfl ?_ rfl ?_<;>repeat' first|trivial|rfl|exact .inl rfl|exact .inr ⟨rfl,_,_,rfl⟩|(simp;done)|(simp;omega)|refine And.intro ?_ ?_)
   have:i=K.length:=by omega
   subst this
   simp -implicitDefEqProofs(disch:=first|decide|omega)only[↓aA,aC,aB,simprocAttr,bB]
   refine aH (aGC mem A B C K.length hA hB hC hK16) rfl (by rintro _ ⟨_,rfl,_⟩;rfl) ?_
   rintro _ ⟨X,rfl,hX⟩
   simp -implicitDefEqProofs(disch:=first|decide|omega)only[↓aA,aC,aB,simprocAttr,bB]
   unfold aBV
   simp -implicitDefEqProofs(disch:=first|decide|omega)only[↓aA,aC,aB,simprocAttr]
   generalize hM:16^m=M
   refine aF (σ:=Nat×List AV) (fun q=>⟨[(2,.int .i64 k),(4,.ref 0 0 0),(9,.sl false 1 (K.map .str)),(14,.sl false 1 (X.map I64)),(15,.own 1 2 0 q.2.length),(16,.int .i64 (q.1:Int))],[.box (stC s),.arr 2 q.2]⟩) (fun q=>q.1<=K.length/\q.2.length<=q.1*M/\∀ x∈q.2,aQt x) (fun q=>K.length-q.1) (0,[]) ?_ ⟨by simp,by simp,by simp⟩ ?_
   · (refine Sub.of0 [some 0,none] rfl ?_ rfl ?_<;>repeat' first|trivial|rfl|exact .inl rfl|exact .inr ⟨rfl,_,_,rfl⟩|(simp;done)|(simp;omega)|refine And.intro ?_ ?_)
   rintro ⟨i,L⟩ ⟨hi,hL,hm⟩
   simp only at hi hL hm
   unfold aBT
   by_cases hik:i<K.length
   · have hg:K.getD i default=K[i]:=by simp [hik]
     have hgx:X.getD i default=X[i]:=by simp [hX,hik]
     have hkk:=hkd K[i] (List.getElem_mem hik)
     have hpw:(16:Nat)^(3-K[i].count 46)<=16^m:=Nat.pow_le_pow_right (by decide) (by omega)
     have hpm:(16:Nat)^m<=16^2:=Nat.pow_le_pow_right (by decide) (by omega)
     rw [hM] at hpw hpm
     have hmi:i*M<=16*M:=Nat.mul_le_mul_right _ (by omega)
     simp -implicitDefEqProofs(disch:=first|decide|omega)only[↓aA,aC,aB,simprocAttr,bB,eG,hg,hgx,hX]
     repeat refine And.intro (by omega) ?_
     refine aH (uU s h hq k (3-K[i].count 46) (by omega) K[i] hkk.2.2 rfl X[i]) rfl (by rintro _ ⟨_,rfl,_⟩;rfl) ?_
     rintro _ ⟨l,rfl,hl1,hl2⟩
     have hel:∀ a∈l,a.el 2=true:=fun a ha=>by obtain ⟨_,_,rfl,_⟩:=hl2 a ha;rfl
     simp -implicitDefEqProofs(disch:=first|decide|omega)only[↓aA,aC,aB,simprocAttr,bB]
     repeat refine And.intro (by omega) ?_
     refine ⟨(i+1,L++l),?_,⟨by simp only;omega,?_,fun x hx=>(List.mem_append.1 hx).elim (hm x) (hl2 x)⟩,by simp only;omega⟩
     · simp only [List.length_append]
       (refine Sub.of0 [some 0,some 2] rfl ?_ rfl ?_<;>repeat' first|trivial|rfl|exact .inl rfl|exact .inr ⟨rfl,_,_,rfl⟩|(simp;done)|(simp;omega)|refine And.intro ?_ ?_)
     · simp only [List.length_append]
       rw [Nat.add_mul,Nat.one_mul]
       omega
   · simp -implicitDefEqProofs(disch:=first|decide|omega)only[↓aA,aC,aB,simprocAttr,bB]
     refine ⟨_,.refl _,L,rfl,Nat.le_trans hL ?_,hm⟩
     rw [Nat.pow_succ,hM,Nat.mul_comm M]
     exact Nat.mul_le_mul_right _ (by omega)
termination_by n=>n
decreasing_by omega
structure Shr where
 path:List UInt8
 mem:Int
 deriving Inhabited
def uH (a:Shr):List AV:=[.str a.path,.int .i64 a.mem]
def SHX (a:Shr):AV:=.agg (uH a)
theorem aE0 {a:Shr}:(SHX a).cells=uH a:=rfl
theorem aKR {a:Shr}:(uH a).length=2:=rfl
theorem aQq {a:Shr}:(uH a).all AV.ok=true:=rfl
theorem aKS {a:Shr}:partOf (uH a) 0 2 true=SHX a:=rfl
theorem aUl {a:Shr}:partOf (uH a) 0 1 false= .str a.path:=rfl
theorem aKQ {P:Program} {d:Bool} {t:Nat} {l:List aP} {r:bX} {L:St->Prop} {Lp:AV->St->Prop} {a:Shr} {H:List AO}:nxt P d t l r L Lp (SHX a) H=cF P d l ⟨(t,SHX a) :: r,H⟩ L Lp:=rfl
theorem aQp {a:Shr} {ρ:Nat->Option Nat}:AV.roL ρ (uH a)=uH a:=rfl
theorem aQs {a:Shr} {ρ:Nat->Option Nat} {n:Nat}:AV.boL ρ n (uH a)=true:=rfl
attribute [simp] aQp aQs
set_option linter.defProp false in
def v7:=ai @aE0<|ai @aKR<|ai @aQq<|ai @aKS<|ai @aUl<| @aKQ
theorem aQr {a:Shr}:partOf (List.drop 1 (uH a)) 0 1 false= .int .i64 a.mem:=rfl
set_option linter.defProp false in
def v8:=@aQr
end Go.Proofs.YtakemdamegfcfaaGreat
