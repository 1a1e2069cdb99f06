/- A part of a proof: what functions of the program compute. No condition. -/
import Derived.Test.YtakemdamegfcfaaGreatT12
import Derived.Test.YtakemdamegfcfaaGreatT42
set_option linter.unusedSimpArgs false
set_option linter.unusedVariables false
set_option maxRecDepth 20000
namespace Go.Proofs.YtakemdamegfcfaaGreat
open Go Go.Ab
def aKH (n:Nat) (y:AV):Prop:=∃ l:List UInt8,y= .str l/\l.length<=n
theorem cb2 {b:BitVec 8} {K:AV->Prop}:aF1 (some [AV.int .u8 (b.toNat:Int)]) K=K (.str [⟨b⟩]):=aEG (l:=[⟨b⟩])
theorem tJ:∀ (k:Nat),k<=19->∀ n:Int,0<=n->n<10^k->1<=k->aW Tryz.prog 108 [.int .i64 n] [] fun y _=>aKH k y
 | k,hk,n,h0,h1,hk1=>by
   refine aK aIj (by simp) ?_
   unfold aEn
   by_cases h10:10<=n
   · obtain ⟨m,rfl⟩:∃ m,k=m+1:=⟨k-1,by omega⟩
     have hm:1<=m:=by
      rcases Nat.eq_zero_or_pos m with rfl|h
      · rw [show (10:Int)^(0+1)=10 from rfl] at h1;omega
      · exact h
     have hp:(10:Int)^(m+1)=10*10^m:=by rw [Int.pow_succ,Int.mul_comm]
     rw [hp] at h1
     have hb:(10:Int)^m<=1000000000000000000:=by
      have:=Nat.pow_le_pow_right (n:=10) (by decide) (show m<=18 by omega)
      have h2:(10:Int)^m=((10^m:Nat):Int):=by rw [Int.natCast_pow];rfl
      rw [h2]
      exact Int.ofNat_le.2 (Nat.le_trans this (by decide))
     have e1:IntKind.i64.wrap (n.tdiv 10)=n / 10:=by
      rw [Int.tdiv_eq_ediv_of_nonneg h0]
      exact wrap_i64 (by omega) (by omega)
     have e2:n.tmod 10=n % 10:=Int.tmod_eq_emod_of_nonneg h0
     simp -implicitDefEqProofs(disch:=first|decide|omega)only[↓aA,aC,aB,simprocAttr,e1,e2]
     refine aH (tJ m (by omega) (n / 10) (by omega) (by omega) hm) rfl (by rintro _ ⟨_,rfl,_⟩;rfl) ?_
     rintro _ ⟨a,rfl,ha⟩
     simp -implicitDefEqProofs(disch:=first|decide|omega)only[↓aA,aC,aB,simprocAttr,e1,e2]
     refine aH (tJ 1 (by omega) (n % 10) (by omega) (by omega) (by omega)) rfl (by rintro _ ⟨_,rfl,_⟩;rfl) ?_
     rintro _ ⟨b,rfl,hb⟩
     simp -implicitDefEqProofs(disch:=first|decide|omega)only[↓aA,aC,aB,simprocAttr]
     repeat refine And.intro (by omega) ?_
     exact ⟨a++b,rfl,by rw [List.length_append];omega⟩
   · simp -implicitDefEqProofs(disch:=first|decide|omega)only[↓aA,aC,aB,simprocAttr,cb2]
     exact ⟨_,rfl,by simpa using hk1⟩
termination_by k=>k
decreasing_by all_goals omega
theorem aSB (n:Int) (h0: -9223372036854775808<=n) (h1:n<9223372036854775808):aW Tryz.prog 108 [.int .i64 n] [] fun y _=>aKH 20 y:=by
 by_cases hn:0<=n
 · exact (tJ 19 (by omega) n hn (by omega) (by omega)).mono fun y _ ⟨l,h1,h2⟩=>⟨l,h1,by omega⟩
 refine aK aIj (by simp) ?_
 unfold aEn
 by_cases h9:n= -9223372036854775808
 · subst h9
   simp -implicitDefEqProofs(disch:=first|decide|omega)only[↓aA,aC,aB,simprocAttr]
   exact ⟨_,rfl,by decide⟩
 · simp -implicitDefEqProofs(disch:=first|decide|omega)only[↓aA,aC,aB,simprocAttr,h9]
   refine aH (tJ 19 (by omega) (0-n) (by omega) (by omega) (by omega)) rfl (by rintro _ ⟨_,rfl,_⟩;rfl) ?_
   rintro _ ⟨a,rfl,ha⟩
   simp -implicitDefEqProofs(disch:=first|decide|omega)only[↓aA,aC,aB,simprocAttr]
   repeat refine And.intro (by omega) ?_
   exact ⟨_,rfl,by simp;omega⟩
theorem w7 (z:Int): -9223372036854775808<=IntKind.i64.wrap z/\IntKind.i64.wrap z<9223372036854775808:=by
 simp [IntKind.wrap,IntKind.signed,IntKind.bits]
 omega
theorem aSA (n:Int):aW Tryz.prog 108 [.int .i64 n] [] fun y _=>aKH 21 y:=by
 by_cases h: -9223372036854775808<=n/\n<9223372036854775808
 · exact (aSB n h.1 h.2).mono fun y _ ⟨l,h1,h2⟩=>⟨l,h1,by omega⟩
 refine aK aIj (by simp) ?_
 unfold aEn
 by_cases hn:0<=n
 · have r1:=w7 (n.tdiv 10)
   have e2:n.tmod 10=n % 10:=Int.tmod_eq_emod_of_nonneg hn
   simp -implicitDefEqProofs(disch:=first|decide|omega)only[↓aA,aC,aB,simprocAttr,e2]
   refine aH (aSB _ r1.1 r1.2) rfl (by rintro _ ⟨_,rfl,_⟩;rfl) ?_
   rintro _ ⟨a,rfl,ha⟩
   simp -implicitDefEqProofs(disch:=first|decide|omega)only[↓aA,aC,aB,simprocAttr,e2]
   refine aH (tJ 1 (by omega) (n % 10) (by omega) (by omega) (by omega)) rfl (by rintro _ ⟨_,rfl,_⟩;rfl) ?_
   rintro _ ⟨b,rfl,hb⟩
   simp -implicitDefEqProofs(disch:=first|decide|omega)only[↓aA,aC,aB,simprocAttr]
   repeat refine And.intro (by omega) ?_
   exact ⟨a++b,rfl,by rw [List.length_append];omega⟩
 · have r1:=w7 (0-n)
   have h9:¬ n= -9223372036854775808:=by omega
   simp -implicitDefEqProofs(disch:=first|decide|omega)only[↓aA,aC,aB,simprocAttr,h9]
   refine aH (aSB _ r1.1 r1.2) rfl (by rintro _ ⟨_,rfl,_⟩;rfl) ?_
   rintro _ ⟨a,rfl,ha⟩
   simp -implicitDefEqProofs(disch:=first|decide|omega)only[↓aA,aC,aB,simprocAttr]
   repeat refine And.intro (by omega) ?_
   exact ⟨_,rfl,by simp;omega⟩
set_option maxHeartbeats 1000000 in
theorem aBp {ls:List (List UInt8)} {qs:List Queue} (h:CL ls qs):aW Tryz.prog 56 [.agg (bN ls qs)] [] fun y _=>aKH 4000 y:=by
 have hl:=h.l
 have hq:=h.q
 refine aK aYV (by simp) ?_
 unfold aXy bN
 simp -implicitDefEqProofs(disch:=first|decide|omega)only[↓aA,aC,aB,simprocAttr,bB]
 unfold aJw
 simp -implicitDefEqProofs(disch:=first|decide|omega)only[↓aA,aC,aB,simprocAttr]
 refine aF (σ:=Nat×List UInt8) (fun q=>⟨[(1,.ref 0 0 0),(3,.str q.2),(4,.int .i64 (q.1:Int))],[.box (bN ls qs)]⟩) (fun q=>q.1<=ls.length+1/\q.2.length+7<=13*q.1) (fun q=>ls.length+1-q.1) (1,[108,97,98,101,108,115]) ?_ ⟨by simp,by decide⟩ ?_
 · unfold bN
   (refine Sub.of0 [some 0] rfl ?_ rfl ?_<;>repeat' first|trivial|rfl|exact .inl rfl|exact .inr ⟨rfl,_,_,rfl⟩|(simp;done)|(simp;omega)|refine And.intro ?_ ?_)
 rintro ⟨i,t⟩ ⟨hi,ht⟩
 simp only at hi ht
 unfold aJt bN
 by_cases hil:i<ls.length
 · have hg:ls.getD i default=ls[i]:=by simp [hil]
   have hlr:=h.lr ls[i] (List.getElem_mem hil)
   simp -implicitDefEqProofs(disch:=first|decide|omega)only[↓aA,aC,aB,simprocAttr,bB,hg]
   repeat refine And.intro (by omega) ?_
   refine ⟨(i+1,t++[32]++ls[i]),?_,⟨by simp only;omega,by simp;omega⟩,by simp only;omega⟩
   (refine Sub.of0 [some 0] rfl ?_ rfl ?_<;>repeat' first|trivial|rfl|exact .inl rfl|exact .inr ⟨rfl,_,_,rfl⟩|(simp;done)|(simp;omega)|refine And.intro ?_ ?_)
 simp -implicitDefEqProofs(disch:=first|decide|omega)only[↓aA,aC,aB,simprocAttr,bB]
 repeat refine And.intro (by omega) ?_
 unfold aJx
 simp -implicitDefEqProofs(disch:=first|decide|omega)only[↓aA,aC,aB,simprocAttr]
 refine aF (σ:=Nat×List UInt8) (fun q=>⟨[(1,.ref 0 0 0),(3,.str q.2),(5,.int .i64 (q.1:Int))],[.box (bN ls qs)]⟩) (fun q=>q.1<=qs.length/\q.2.length<=221*q.1+60) (fun q=>qs.length-q.1) (0,t++[10]) ?_ ⟨by simp,by simp;omega⟩ ?_
 · unfold bN
   (refine Sub.of0 [some 0] rfl ?_ rfl ?_<;>repeat' first|trivial|rfl|exact .inl rfl|exact .inr ⟨rfl,_,_,rfl⟩|(simp;done)|(simp;omega)|refine And.intro ?_ ?_)
 rintro ⟨i,t⟩ ⟨hi,ht⟩
 simp only at hi ht
 unfold aJu bN
 by_cases hil:i<qs.length
 · have hg:qs.getD i default=qs[i]:=by simp [hil]
   have hqr:=h.qr qs[i] (List.getElem_mem hil)
   have hc:=hqr.caps
   have hp:=hqr.path
   simp -implicitDefEqProofs(disch:=first|decide|omega)only[↓aA,aC,aB,simprocAttr,bB,bW,hg]
   repeat refine And.intro (by omega) ?_
   refine a7 (aSA _) rfl (by rintro _ ⟨_,rfl,_⟩;rfl) ?_
   rintro _ ⟨d,rfl,hd⟩
   simp -implicitDefEqProofs(disch:=first|decide|omega)only[↓aA,aC,aB,simprocAttr,bB,bW]
   repeat refine And.intro (by omega) ?_
   unfold aJy
   simp -implicitDefEqProofs(disch:=first|decide|omega)only[↓aA,aC,aB,simprocAttr]
   generalize hu:t++[113,117,101,117,101,32]++qs[i].path++[32]++d=u
   have hul:u.length<=221*i+148:=by
    rw [<- hu]
    simp
    omega
   refine aF (σ:=Nat×List UInt8) (fun q=>⟨[(1,.ref 0 0 0),(3,.str q.2),(5,.int .i64 (i:Int)),(6,.ref 1 0 0),(7,.int .i64 (q.1:Int))],[.box (bN ls qs),.box (jU qs[i])]⟩) (fun q=>q.1<=qs[i].caps.length/\q.2.length<=221*i+148+44*q.1) (fun q=>qs[i].caps.length-q.1) (0,u) ?_ ⟨by simp,by simp only;omega⟩ ?_
   · unfold bN
     (refine Sub.of0 [some 0,some 1] rfl ?_ rfl ?_<;>repeat' first|trivial|rfl|exact .inl rfl|exact .inr ⟨rfl,_,_,rfl⟩|(simp;done)|(simp;omega)|refine And.intro ?_ ?_)
   rintro ⟨k,v⟩ ⟨hk,hv⟩
   simp only at hk hv
   unfold aJv bN
   by_cases hkl:k<qs[i].caps.length
   · have hgk:qs[i].caps.getD k default=qs[i].caps[k]:=by simp [hkl]
     simp -implicitDefEqProofs(disch:=first|decide|omega)only[↓aA,aC,aB,simprocAttr,bB,bW,kH,hgk]
     repeat refine And.intro (by omega) ?_
     refine a7 (aSA _) rfl (by rintro _ ⟨_,rfl,_⟩;rfl) ?_
     rintro _ ⟨d1,rfl,hd1⟩
     simp -implicitDefEqProofs(disch:=first|decide|omega)only[↓aA,aC,aB,simprocAttr,bB,bW,kH]
     repeat refine And.intro (by omega) ?_
     refine a7 (aSA _) rfl (by rintro _ ⟨_,rfl,_⟩;rfl) ?_
     rintro _ ⟨d2,rfl,hd2⟩
     simp -implicitDefEqProofs(disch:=first|decide|omega)only[↓aA,aC,aB,simprocAttr,bB,bW,kH]
     repeat refine And.intro (by omega) ?_
     refine ⟨(k+1,v++[32]++d1++[47]++d2),?_,⟨by simp only;omega,by simp;omega⟩,by simp only;omega⟩
     (refine Sub.of0 [some 0,some 1] rfl ?_ rfl ?_<;>repeat' first|trivial|rfl|exact .inl rfl|exact .inr ⟨rfl,_,_,rfl⟩|(simp;done)|(simp;omega)|refine And.intro ?_ ?_)
   · simp -implicitDefEqProofs(disch:=first|decide|omega)only[↓aA,aC,aB,simprocAttr,bB,bW]
     repeat refine And.intro (by omega) ?_
     refine ⟨(i+1,v++[10]),?_,⟨by simp only;omega,by simp;omega⟩,by simp only;omega⟩
     (refine Sub.of0 [some 0] rfl ?_ rfl ?_<;>repeat' first|trivial|rfl|exact .inl rfl|exact .inr ⟨rfl,_,_,rfl⟩|(simp;done)|(simp;omega)|refine And.intro ?_ ?_)
 · simp -implicitDefEqProofs(disch:=first|decide|omega)only[↓aA,aC,aB,simprocAttr,bB]
   exact ⟨t,rfl,by omega⟩
def aUh:List (List UInt8):=[[114,111,111,116]]
def aUg:List (List UInt8):=[[114,111,111,116],[114,111,111,116,46,97],[114,111,111,116,46,98]]
def aUf:List (List UInt8):=[[114,111,111,116],[114,111,111,116,46,97],[114,111,111,116,46,97,46,120],[114,111,111,116,46,97,46,121],[114,111,111,116,46,98]]
def aUe:List (List UInt8):=[[114,111,111,116],[114,111,111,116,46,97],[114,111,111,116,46,98],[114,111,111,116,46,98,46,120],[114,111,111,116,46,98,46,120,46,112],[114,111,111,116,46,98,46,120,46,113],[114,111,111,116,46,99]]
def aUd:List (List UInt8):=[[114,111,111,116],[114,111,111,116,46,97]]
def aUp (g:GP) (cs:Nat->List Cap) (q:Nat):Queue:=⟨g.ps q,cs q,g.us q⟩
def nqG (g:GP) (cs:Nat->List Cap):List NQ:=g.l.map fun q=>⟨g.ps q,(cs q).map CAP,g.us q,3+q⟩
theorem aMn (g:GP) (cs:Nat->List Cap):oM (nqG g cs)=(g.l.map (aUp g cs)).map QUE:=by
 unfold oM nqG
 rw [List.map_map,List.map_map]
 rfl
theorem x0 (ps:Nat->List UInt8) (us:Nat->Int) (nl:Nat) (cs:Nat->List Cap) (h:∀ q,(cs q).length=nl):∀ l:List Nat,kF (l.map fun q=>(⟨ps q,(cs q).map CAP,us q,3+q⟩:NQ))=gQ ps us nl l
 | []=>rfl
 | q :: l=>by
   have:=x0 ps us nl cs h l
   unfold kF at this ⊢
   rw [List.map_cons,List.flatMap_cons,this]
   simp only [List.length_map,h]
   rfl
theorem aIu (cs:Nat->List Cap):∀ l:List Nat,gA cs l=l.map fun q=>.arr 2 ((cs q).map CAP)
 | []=>rfl
 | q :: l=>by rw [gA,aIu cs l];rfl
theorem GL.rng {l:List Nat} (h:GL l):l=List.range l.length:=by cases h<;>rfl
theorem aRc (g:GP) (hl:GL g.l) (cs:Nat->List Cap) (A B:AO) (bs:List AV) (T:List AO):∀ x∈nqG g cs,(A :: B :: .box bs :: (gA cs g.l++T))[x.id]?=some (.arr 2 x.l)/\x.id≠2:=by
 intro x hx
 unfold nqG at hx
 obtain ⟨q,hq,rfl⟩:=List.mem_map.1 hx
 have e:=hl.rng
 rw [e] at hq
 have hq:=List.mem_range.1 hq
 have eq:(gA cs g.l)[q]?=some (.arr 2 ((cs q).map CAP)):=by
  rw [aIu,e,List.getElem?_map,List.getElem?_range hq]
  rfl
 refine ⟨?_,by simp only;omega⟩
 simp only
 rw [show 3+q=q+1+1+1 by omega,List.getElem?_cons_succ,List.getElem?_cons_succ,List.getElem?_cons_succ,List.getElem?_append_left (List.getElem?_eq_some_iff.1 eq).1]
 exact eq
theorem aHH (g:GP) (hl:GL g.l) (cs:Nat->List Cap):((nqG g cs).map NQ.id).Nodup:=by
 unfold nqG
 rw [List.map_map,hl.rng]
 refine List.pairwise_map.2 (List.nodup_range.imp fun {a b} h=>?_)
 simp only [Function.comp]
 omega
def gT:List (List (List UInt8)):=[aUh,aUg,aUf,aUe,aUd]
def gP (ns:List Int) (labs pl:List (List UInt8)):GP:=⟨ns,labs,pl,0,fun q=>pl.getD q default,fun _=>0,[]⟩
theorem aWN (ns:List Int) (labs pl:List (List UInt8)):∀ (q:Nat) (h:q<(gP ns labs pl).pl.length),(gP ns labs pl).pl[q]=(gP ns labs pl).ps q:=fun q h=>by
 have:q<pl.length:=h
 show pl[q]=pl.getD q default
 simp [this]
theorem aWO {ns:List Int} {labs pl:List (List UInt8)} (hns:ns.length<=30) (hl:labs.length=1∨labs.length=2) (hp:pl.length<=7) (hx:∀ x∈pl,x.length<=60) (hg:GL (ixs pl.length)) (r:Nat) (us:Nat->Int):aBm ((gP ns labs pl).at r us pl.length):=by
 refine ⟨hns,hl,hp,hg,fun q=>?_⟩
 show (pl.getD q default).length<=60
 by_cases h:q<pl.length
 · have:pl.getD q default=pl[q]:=by simp [h]
   rw [this]
   exact hx _ (List.getElem_mem h)
 · have:pl.getD q default=default:=by simp [List.getElem?_eq_none (Nat.le_of_not_lt h)]
   rw [this]
   show (0:Nat)<=60
   omega
theorem aKG {pl:List (List UInt8)} (h:pl∈gT):pl.length<=7/\(∀ x∈pl,x.length<=60)/\GL (ixs pl.length):=by
 simp only [gT,List.mem_cons,List.not_mem_nil,or_false] at h
 rcases h with rfl|rfl|rfl|rfl|rfl
 · exact ⟨by decide,by decide,.a⟩
 · exact ⟨by decide,by decide,.c⟩
 · exact ⟨by decide,by decide,.d⟩
 · exact ⟨by decide,by decide,.e⟩
 · exact ⟨by decide,by decide,.b⟩
theorem ldt {l:List (List (List UInt8))} {i:Nat} {K:AV->Prop} (h:i<l.length):rG 1 false i 0 (some (.arr 1 (l.map fun t=>.sl false 1 (t.map .str)))) K=K (.sl false 1 (l[i].map .str)):=by
 show (_/\_/\_/\_)=_
 simp [h]
 rfl
def aOd (y:AV) (G:List AO):Prop:=∃ (g:GP) (cs:Nat->List Cap) (T:List AO),aBm g/\(∀ q,(cs q).length=g.labs.length)/\(∀ x∈g.labs,x.length<=12)/\y= .agg [.sl false 1 (g.labs.map .str),.own 2 3 0 g.l.length]/\G= .box [.sl false 1 (g.labs.map .str),.own 2 3 0 g.l.length] :: (g.H cs []).tail
set_option maxHeartbeats 16000000 in
theorem aIq (shape:Int) (ns:List Int) (hns:ns.length<=30):aW Tryz.prog 57 [.int .i64 shape,.sl true 1 (ns.map I64)] [] aOd:=by
 refine aO aVk (by simp) ?_
 unfold aXx
 obtain ⟨x1,a1,b1,c1⟩:=tB (IntKind.i64.wrap (shape.tdiv 5)) 2 (by omega) (by omega)
 obtain ⟨x2,a2,b2,c2⟩:=tB shape 5 (by omega) (by omega)
 simp -implicitDefEqProofs(disch:=first|decide|omega)only[↓aA,aC,aB,simprocAttr,cA,bU,List.append_nil]
 refine aE (aI.of (aM:=false) (c1) (.refl rfl) rfl (by simp)) ?_
 simp -implicitDefEqProofs(disch:=first|decide|omega)only[↓aA,aC,aB,simprocAttr,cA,bU,List.append_nil]
 refine ⟨by omega,by omega,by omega,?_⟩
 obtain ⟨labs,hl1,hl2,hl3⟩:∃ labs:List (List UInt8),List.take (1+x1).toNat [AV.str [],AV.str [103,112,117]]=labs.map .str/\(labs.length=1∨labs.length=2)/\∀ x∈labs,x.length<=12:=by
  rcases (by omega:x1=0∨x1=1) with rfl|rfl
  · exact ⟨[[]],rfl,.inl rfl,by decide⟩
  · exact ⟨[[],[103,112,117]],rfl,.inr rfl,by decide⟩
 rw [hl1]
 unfold aB4
 simp -implicitDefEqProofs(disch:=first|decide|omega)only[↓aA,aC,aB,simprocAttr]
 refine aE (aI.of (aM:=false) (c2) (.refl rfl) rfl (by simp)) ?_
 simp -implicitDefEqProofs(disch:=first|decide|omega)only[↓aA,aC,aB,simprocAttr]
 refine ⟨a2,b2,?_⟩
 have hx2:x2.toNat<gT.length:=by show x2.toNat<5;omega
 show rG 1 false x2.toNat 0 (some (.arr 1 (gT.map fun t=>.sl false 1 (t.map .str)))) _
 rw [ldt hx2]
 have ht:=aKG (List.getElem_mem hx2)
 generalize gT[x2.toNat]=pl at ht
 obtain ⟨t1,t2,t3⟩:=ht
 simp -implicitDefEqProofs(disch:=first|decide|omega)only[↓aA,aC,aB,simprocAttr]
 unfold aJn
 simp -implicitDefEqProofs(disch:=first|decide|omega)only[↓aA,aC,aB,simprocAttr]
 refine aUy (gP ns labs pl) hns hl2 t1 (aWN ns labs pl) _ (fun r us cs hcs=>?_) _ (by
  simp only [gP]
  (refine Sub.ofL [some 0,some 8] rfl (by simp) (by decide) (by simp [cQ,AO.ro,AV.ro,AV.roL,names,AO.empty,SB,U8,SI,I64,STR]<;>(try and_intros)<;>rfl) (by simp [AO.bo,AV.bo,AV.boL,names]<;>(try and_intros)<;>rfl) ?_<;>(try simp only [List.map_cons,List.map_nil,cV,AV.ro,AV.roL,AV.bo,AV.boL,names,bK,bE,Nat.reduceBEq,List.getD_cons_zero,List.getD_cons_succ,List.getD_nil,and_true,true_and,Nat.reduceLT,List.length_cons,List.length_nil,Nat.reduceAdd,decide_true,Option.isSome_some,Bool.true_or,Bool.and_self,Option.isSome_none,Bool.false_or,beq_self_eq_true,bL,bM])<;>(try and_intros)<;>(first|done|rfl|exact .inl rfl|exact .inr ⟨rfl,_,_,rfl⟩|(simp;done)|(simp;omega)|(refine .inl ?_;simp;done)|(refine .inl ?_;simp;omega))))
 simp -implicitDefEqProofs(disch:=first|decide|omega)only[↓aA,aC,aB,simprocAttr]
 unfold aJp
 simp -implicitDefEqProofs(disch:=first|decide|omega)only[↓aA,aC,aB,simprocAttr]
 have ok:=aWO (ns:=ns) hns hl2 t1 t2 t3 r us
 have hB:((gP ns labs pl).at r us pl.length).B cs=((gP ns labs pl).at r us pl.length).H cs []:=by
  unfold GP.B
  split
  · rename_i e
    have:(ixs pl.length)=[]:=e
    rw [this] at t3
    cases t3
  · rfl
 refine aWM ((gP ns labs pl).at r us pl.length) ok cs hcs _ (fun cs' hcs'=>?_) _ (.inl (by rw [<- hB];rfl))
 have hQ:∀ T,aOd (.agg [.sl false 1 (((gP ns labs pl).at r us pl.length).labs.map .str),.own 2 3 0 ((gP ns labs pl).at r us pl.length).l.length]) (.box [.sl false 1 (((gP ns labs pl).at r us pl.length).labs.map .str),.own 2 3 0 ((gP ns labs pl).at r us pl.length).l.length] :: (((gP ns labs pl).at r us pl.length).H cs' []).tail):=fun T=>⟨_,cs',T,ok,hcs',hl3,rfl,rfl⟩
 generalize (gP ns labs pl).at r us pl.length=g at hQ ⊢
 simp only [GP.H,List.append_nil,List.tail_cons] at hQ ⊢
 simp -implicitDefEqProofs(disch:=first|decide|omega)only[↓aA,aC,aB,simprocAttr,cA,bU,List.append_nil]
 exact hQ []
theorem aMX (shape:Int) (ns:List Int) (hns:ns.length<=30):aW Tryz.prog 57 [.int .i64 shape,.sl true 1 (ns.map I64)] [] fun y G=>(∃ ls qs,y= .agg (bN ls qs)/\CL ls qs)/\G=[]:=by
 refine ((aIq shape ns hns).sub (Post':=fun y G=>∃ ls qs,y= .agg (bN ls qs)/\CL ls qs) ?_).drop ?_
 · rintro y G ⟨g,cs,T,hg,hcs,hl,rfl,rfl⟩
   have hr:=hg.l.rng
   refine ⟨_,(j7 (nqG g cs) (.box [.sl false 1 (g.labs.map .str),.own 2 3 0 g.l.length] :: (g.H cs []).tail)).set 2 .dead,.inr (.inr ?_),g.labs,g.l.map (aUp g cs),rfl,by rcases hg.labs with h|h<;>omega,hl,by rw [List.length_map];have:=hg.l.len;omega,fun q hq=>?_⟩
   · have hs:=aGP (g:=0) (q:=2) (qs:=nqG g cs) (rest:=List.replicate g.r AV.any) (a:=.sl false 1 (g.labs.map AV.str)) (G:=.box [.sl false 1 (g.labs.map .str),.own 2 3 0 g.l.length] :: (g.H cs []).tail) (by
      unfold nqG
      rw [x0 g.ps g.us g.labs.length cs hcs]
      rfl) (aRc g hg.l cs _ _ _ _) (aHH g hg.l cs) rfl
     have hlen:(nqG g cs).length=g.l.length:=by simp [nqG]
     rw [hlen,aMn] at hs
     exact hs
   · obtain ⟨x,hx,rfl⟩:=List.mem_map.1 hq
     exact ⟨hg.ps x,by show (cs x).length<=3;rw [hcs];rcases hg.labs with h|h<;>omega⟩
 · rintro y Hr ⟨ls,qs,rfl,h⟩
   exact ⟨[],Hr,rfl,Nat.le_refl _,by rfl,by simp,⟨ls,qs,rfl,h⟩,rfl⟩
end Go.Proofs.YtakemdamegfcfaaGreat
