/- A part of a proof: what functions of the program compute. No condition. -/
import Derived.Test.YtakemdamegfcfaaGreatT18
import Derived.Test.YtakemdamegfcfaaGreatProg
import Derived.KernelRfl
import Derived.Test.YtakemdamegfcfaaGreatT6
import Derived.Test.YtakemdamegfcfaaGreatT10
set_option linter.unusedSimpArgs false
set_option linter.unusedVariables false
set_option maxHeartbeats 16000000
set_option maxRecDepth 100000
namespace Go.Proofs.YtakemdamegfcfaaGreat
open Go Go.Ab
def s8 (B:Nat) (s:Sta) (n:Node) (y:AV):Prop:=∃ s':Sta,∃ k:Int,∃ c:bD,∃ d:Bool,y= .tup [.agg (stC s'),.int .i64 k,bY c,.bool d]/\II (B+1) s'/\(d=false->s'=bV s n.id)
set_option maxHeartbeats 2000000 in
theorem aGj {B:Nat} (s:Sta) (h:II B s) (hB:B+1<=2^39) (n:Node) (hn:n∈s.nodes) (hu:n.up=true) (x:dY) (hc:s.conts.length<200) (hq:s.sq+1<2^20) :
 aW Tryz.prog 194 [.agg (stC s),bO n,gW x] [] fun y _=>s8 B s n y:=by
 have K:=okS h (by omega)
 have dN:s8 B s n (.tup [.agg (stC (bV s n.id)),.int .i64 0,bY cI,.bool false]):=⟨bV s n.id,0,cI,false,rfl,(jC h _).mono (by omega),fun _=>rfl⟩
 refine aO aRS (by simp) ?_
 unfold aPd
 refine Ye ?_
 have c40:=gV s (by have:=K.sz.a;omega) x.app
 unfold dT at c40
 refine aE (aI.of (aM:=false) (c40) (.refl rfl) rfl (by simp)) ?_
 generalize hga:(dP x.app s.apps).getD gI=a
 have hal:a.asks.length<=8:=by
  rw [<- hga]
  cases hf:dP x.app s.apps with
  | none=>simp [gI]
  | some b=>exact (h.aR b (jG hf).1).asks
 refine Ye ?_
 have c211:=aMJ a.asks (by omega) x.prio
 unfold dT at c211
 refine aE (aI.of (aM:=false) (c211) (.refl rfl) rfl (by simp)) ?_
 generalize hgk:(aMZ x.prio a.asks).getD vS=k
 refine Ye ?_
 have ex:aw Tryz.prog tQ (iT (awK Tryz.prog tP (oN [.ce 6 41 10 true,.tm 7,.ce 8 82 9 true,.tm 9] fun y _=>s8 B s n y)) (oN [.ce 6 41 10 true,.tm 7,.ce 8 82 9 true,.tm 9] fun y _=>s8 B s n y)) ⟨[(3,.ref 0 0 0),(4,.ref 1 0 0),(6,.ref 3 0 0),(8,.ref 4 0 0),(10,.ref 5 0 0),(12,.ref 6 0 0),(74,.bool true)],[.box (stC s),.box (cB n),.box (gF x),.box [.aD,.aD,.aD,.aD,.aD,.aD,.aD,.int .i64 0,.int .i64 0,.int .i64 0],.box [.int .i64 0,.int .i64 0,.int .i64 0,.int .i64 0,.int .i64 0,.int .i64 0,.int .i64 0,.bool false,.int .i64 0],.box (bI a),.box (fC k)]⟩:=by
  unfold tQ
  refine Ye ?_
  refine aE (aI.of (aM:=false) (pZ s (by have:=K.sz.l;omega) n.id) (.refl rfl) rfl (by simp)) ?_
  refine Yb ?_
  exact dN
 cases hf:dP x.app s.apps with
 | none =>
   simp -implicitDefEqProofs(disch:=first|decide|omega)only[↓aA,aC,aB,simprocAttr,bB,aN,bF,a9,cU,Option.isSome_none]
   exact ex
 | some b =>
   have hb:a=b:=by rw [<- hga,hf];rfl
   subst hb
   have ha:=(jG hf).1
   have haR:=h.aR a ha
   have c42:=fX a
   simp -implicitDefEqProofs(disch:=first|decide|omega)only[↓aA,aC,aB,simprocAttr,bB,aN,bF,a9,cU,Option.isSome_some]
   refine aE (aI.of (aM:=false) (c42) (.refl rfl) rfl (by simp)) ?_
   cases hl:live a
   · simp -implicitDefEqProofs(disch:=first|decide|omega)only[↓aA,aC,aB,simprocAttr,bB,aN,bF,a9,cU]
     exact ex
   cases hgs:aMZ x.prio a.asks with
   | none =>
     simp -implicitDefEqProofs(disch:=first|decide|omega)only[↓aA,aC,aB,simprocAttr,bB,aN,bF,a9,cU,Option.isSome_none]
     exact ex
   | some k2 =>
     have hk2:k=k2:=by rw [<- hgk,hgs];rfl
     subst hk2
     have hx:jT k:=haR.ask k (List.mem_of_find?_eq_some hgs)
     simp -implicitDefEqProofs(disch:=first|decide|omega)only[↓aA,aC,aB,simprocAttr,bB,aN,bF,a9,cU,Option.isSome_some]
     refine aH (aUO k n) rfl (by rintro _ ⟨_,rfl⟩;rfl) ?_
     rintro _ ⟨may,rfl⟩
     cases may
     · simp -implicitDefEqProofs(disch:=first|decide|omega)only[↓aA,aC,aB,simprocAttr,bB,aN,bF,a9,cU]
       exact ex
     simp -implicitDefEqProofs(disch:=first|decide|omega)only[↓aA,aC,aB,simprocAttr,bB,aN,bF,a9,cU]
     refine aE (aI.of (aM:=false) (fO k.mem k.cores n.mem n.cores) (.refl rfl) rfl (by simp)) ?_
     by_cases hf2:k.mem<=n.mem/\k.cores<=n.cores
     case neg =>
      rw [decide_eq_false hf2]
      simp -implicitDefEqProofs(disch:=first|decide|omega)only[↓aA,aC,aB,simprocAttr,bB,aN,bF,a9,cU]
      exact ex
     rw [decide_eq_true hf2]
     simp -implicitDefEqProofs(disch:=first|decide|omega)only[↓aA,aC,aB,simprocAttr,bB,aN,bF,a9,cU]
     refine aH (aUN K.st K.w a.queue haR.queue k) rfl (by rintro _ ⟨_,rfl⟩;rfl) ?_
     rintro _ ⟨due,rfl⟩
     cases due
     · simp -implicitDefEqProofs(disch:=first|decide|omega)only[↓aA,aC,aB,simprocAttr,bB,aN,bF,a9,cU]
       exact ex
     simp -implicitDefEqProofs(disch:=first|decide|omega)only[↓aA,aC,aB,simprocAttr,bB,aN,bF,a9,cU]
     refine aH (aUM K.st K.w a.queue haR.queue n.label a.user) rfl (by rintro _ ⟨_,rfl⟩;rfl) ?_
     rintro _ ⟨more,rfl⟩
     cases more
     · simp -implicitDefEqProofs(disch:=first|decide|omega)only[↓aA,aC,aB,simprocAttr,bB,aN,bF,a9,cU]
       exact ex
     simp -implicitDefEqProofs(disch:=first|decide|omega)only[↓aA,aC,aB,simprocAttr,bB,aN,bF,a9,cU]
     unfold tP
     simp -implicitDefEqProofs(disch:=first|decide|omega)only[↓aA,aC,aB,simprocAttr,bB,aN,bF,a9,cU]
     refine bP (yB s (by have:=K.st.n;omega) (by omega) K.co K.no n.id) rfl rfl ?_
     simp -implicitDefEqProofs(disch:=first|decide|omega)only[↓aA,aC,aB,simprocAttr,bB,aN,bF,a9,cU]
     refine bP (fO k.mem k.cores (eY n.id s).1 (eY n.id s).2) rfl rfl ?_
     have dW:s8 B s n (.tup [.agg (stC s),.int .i64 3,bY cI,.bool true]):=⟨s,3,cI,true,rfl,h.mono (by omega),fun e=>absurd e (by decide)⟩
     by_cases hfit:k.mem<=(eY n.id s).1/\k.cores<=(eY n.id s).2
     case neg =>
      rw [decide_eq_false hfit]
      simp -implicitDefEqProofs(disch:=first|decide|omega)only[↓aA,aC,aB,simprocAttr,bB,aN,bF,a9,cU]
      exact dW
     rw [decide_eq_true hfit]
     simp -implicitDefEqProofs(disch:=first|decide|omega)only[↓aA,aC,aB,simprocAttr,bB,aN,bF,a9,cU]
     refine a7 (aUL K.st K.w a.queue haR.queue n.label k.mem k.cores) rfl (by rintro _ ⟨_,rfl⟩;rfl) ?_
     rintro _ ⟨room,rfl⟩
     cases room
     · simp -implicitDefEqProofs(disch:=first|decide|omega)only[↓aA,aC,aB,simprocAttr,bB,aN,bF,a9,cU]
       exact dW
     simp -implicitDefEqProofs(disch:=first|decide|omega)only[↓aA,aC,aB,simprocAttr,bB,aN,bF,a9,cU]
     have c153:=pZ s (by have:=K.sz.l;omega) n.id
     have c216:=yY (bV s n.id) n a k (by show s.conts.length<_;omega) (by have:=K.sz.a;show s.apps.length<_;omega) (by omega) (fun y hy=>by have:=(haR.ask y hy).count;omega) (K.sz.g a ha) K.ep K.sq
     have hfl:=(o7 h hn).1 hu
     have fin:s8 B s n (.tup [.agg (stC (mK (bV s n.id) n a k)),.int .i64 1,bY (jV (bV s n.id) n a k),.bool true]):=⟨_,1,_,true,rfl,vG (jC h _) hn hu ha hl hx hc hq (by show (bR n.id s.conts).1+_<=_;omega) (by show (bR n.id s.conts).2+_<=_;omega),fun e=>absurd e (by decide)⟩
     repeat' first
      | exact fin
      | (with_reducible apply And.intro)
      | (refine bP (c153) rfl rfl ?_
         simp -implicitDefEqProofs(disch:=first|decide|omega)only[↓aA,aC,aB,simprocAttr,aN,bF,a9,cU])
      | (refine bP (c216) rfl rfl ?_
         simp -implicitDefEqProofs(disch:=first|decide|omega)only[↓aA,aC,aB,simprocAttr,bB,aY])
def a1i:{c:CC // aJ Tryz.prog 149=c}:=⟨_,by conv=>lhs;reduce⟩
def aT4:{c:CC // bA Tryz.prog 149 {} a1i.1 []=c}:=⟨_,by conv=>lhs;reduce⟩
def aD1:CC:=(fun (c:CC) (_:(aT4.1.aV [1,1,0,1,0,0])=c)=>c) _ (by conv=>lhs;reduce)
def aD2:CC:=(fun (c:CC->CC) (_:(fun a0=>(aT4.1.aV [1,1,0,1]).aU [0,0] a0)=c)=>c) _ (by conv=>lhs;reduce) aD1
def aPE:CC:=(fun (c:CC->CC) (_:(fun a0=>(aT4.1).aU [1,1,0,1] a0)=c)=>c) _ (by conv=>lhs;reduce) aD2
theorem aR2:aX Tryz.prog 149 aPE [.ce 4 41 10 true,.tm 5] 31:=aX.of Tryz.f149 Tryz.func149 rfl ⟨by kernel_rfl,trivial⟩
def a02:{c:CC // aJ Tryz.prog 177=c}:=⟨_,by conv=>lhs;reduce⟩
def aZI:{c:CC // bA Tryz.prog 177 {} a02.1 [([1,1,1,1,0,1,0,1,1,1,0,0],(.p [1,0] (.f [2,3,4,5]) (.f [3,4,2,5]))),([1,1,1,1,1,1,0,1,0,0],(.p [1,0] (.f [2,3,4,5]) (.f [3,4,2,5])))]=c}:=⟨_,by conv=>lhs;reduce⟩
def aPo:CC:=(fun (c:CC) (_:(aZI.1)=c)=>c) _ (by conv=>lhs;reduce)
theorem aRX:aX Tryz.prog 177 aPo [.ce 4 41 10 true,.tm 5,.ce 6 82 9 true] 82:=aX.of Tryz.f177 Tryz.func177 rfl ⟨by kernel_rfl,by kernel_rfl,trivial⟩
def a0Q:{c:CC // aJ Tryz.prog 195=c}:=⟨_,by conv=>lhs;reduce⟩
def aBg:{c:CC // bA Tryz.prog 195 {} a0Q.1 [([1,1,0,1,0,0,1,0,0,0],(.f [1,2,3,1004,0,5,6])),([1,1,0,1,0,0,1,0,0,1,1,0,0,1,0,0,0],(.f [1,2,3,1004,0,9,2005,6,7,8,10,11])),([1,1,0,1,0,0,1,0,0,1,1,0,0,1,0,0,1,0,0],(.f [1,2,3,5,7,1004,0,6,8,9,10])),([1,1,0,1,0,0,1,0,0,1,1,0,0,1,0,0,1,1,1,0,0,1,0,0,0],(.f [1,2,3,1004,0,9,2005,6,7,8,10,11])),([1,1,0,1,0,0,1,0,0,1,1,0,0,1,0,0,1,1,1,0,0,1,0,0,1,0],(.p [3,5,8,0,1,2,4,6,1007] (.p [2009,10,11,12,13] (.f [14,15,16,17,18]) (.f [15,14,16,17,18])) (.p [] (.f [14,15,2009,10,11,12,13,16,17,18]) (.f [15,14,2009,10,11,12,13,16,17,18])))),([1,1,0,1,0,0,1,0,0,1,1,0,0,1,0,0,1,1,1,0,0,1,0,0,1,1,1,1,0,0],(.p [1,0] (.f [2,3,4,5]) (.f [3,4,2,5])))]=c}:=⟨_,by conv=>lhs;reduce⟩
def aC7:CC:=(fun (c:CC) (_:(aBg.1.aV [1,1,0,1,0,0,1,0,0,1,1,0,0,1,0,0,1,1,1,0,0])=c)=>c) _ (by conv=>lhs;reduce)
def aDa:CC:=(fun (c:CC->CC) (_:(fun a0=>(aBg.1.aV [1,1,0,1,0,0,1,0,0,1,1,0,0,1,0,0,1,1,1]).aU [0,0] a0)=c)=>c) _ (by conv=>lhs;reduce) aC7
def aC6:CC:=(fun (c:CC->CC) (_:(fun a0=>(aBg.1.aV [1,1,0,1,0,0,1,0,0,1,1,0,0]).aU [1,0,0,1,1,1] a0)=c)=>c) _ (by conv=>lhs;reduce) aDa
def aC9:CC:=(fun (c:CC->CC) (_:(fun a0=>(aBg.1.aV [1,1,0,1,0,0,1,0,0,1,1]).aU [0,0] a0)=c)=>c) _ (by conv=>lhs;reduce) aC6
def aC5:CC:=(fun (c:CC->CC) (_:(fun a0=>(aBg.1.aV [1,1,0,1,0,0]).aU [1,0,0,1,1] a0)=c)=>c) _ (by conv=>lhs;reduce) aC9
def aC8:CC:=(fun (c:CC->CC) (_:(fun a0=>(aBg.1.aV [1,1,0,1]).aU [0,0] a0)=c)=>c) _ (by conv=>lhs;reduce) aC5
def aPc:CC:=(fun (c:CC->CC) (_:(fun a0=>(aBg.1).aU [1,1,0,1] a0)=c)=>c) _ (by conv=>lhs;reduce) aC8
theorem aRR:aX Tryz.prog 195 aPc [.ce 6 41 10 true,.tm 7,.ce 8 82 9 true] 101:=aX.of Tryz.f195 Tryz.func195 rfl ⟨by kernel_rfl,by kernel_rfl,trivial⟩
def a0x:{c:CC // aJ Tryz.prog 218=c}:=⟨_,by conv=>lhs;reduce⟩
def aBf:{c:CC // bA Tryz.prog 218 {} a0x.1 []=c}:=⟨_,by conv=>lhs;reduce⟩
def aCF:CC:=(fun (c:CC) (_:(aBf.1.aV [1,1,1,1,0,1,0,0])=c)=>c) _ (by conv=>lhs;reduce)
def aCI:CC:=(fun (c:CC->CC) (_:(fun a0=>(aBf.1.aV [1,1,1,1,0,1]).aU [0,0] a0)=c)=>c) _ (by conv=>lhs;reduce) aCF
def aCE:CC:=(fun (c:CC) (_:(aBf.1.aV [1,1,0,1,0,0,1,0,0,1,1,1,0,0,0])=c)=>c) _ (by conv=>lhs;reduce)
def aCH:CC:=(fun (c:CC->CC) (_:(fun a0=>(aBf.1.aV [1,1,0,1,0,0,1,0,0,1,1,1,0]).aU [0,0] a0)=c)=>c) _ (by conv=>lhs;reduce) aCE
def aCD:CC:=(fun (c:CC->CC) (_:(fun a0=>(aBf.1.aV [1,1,0,1,0,0]).aU [1,0,0,1,1,1,0] a0)=c)=>c) _ (by conv=>lhs;reduce) aCH
def aCG:CC:=(fun (c:CC->CC) (_:(fun a0=>(aBf.1.aV [1,1,0,1]).aU [0,0] a0)=c)=>c) _ (by conv=>lhs;reduce) aCD
def aOT:CC:=(fun (c:CC->CC->CC) (_:(fun a0 a1=>((aBf.1).aU [1,1,0,1] a0).aU [1,1,1,1,0,1] a1)=c)=>c) _ (by conv=>lhs;reduce) aCG aCI
theorem aVX:aZ Tryz.prog 218 aOT [4] 78:=aZ.of Tryz.f218 Tryz.func218 rfl
def aEM (s:Sta) (id:Int):Prop:=∃ a∈s.apps,a.id=id/\live a=true
set_option maxHeartbeats 2000000 in
theorem aGl (s:Sta) (hl:s.apps.length<=2^20) (q:List UInt8):aW Tryz.prog 218 [.agg (stC s),.str q] [] fun y _=>∃ l:List Int,y= .sl false 1 (l.map I64)/\l.length<=s.apps.length/\∀ id∈l,aEM s id:=by
 refine aK aVX (by simp) ?_
 unfold aOT
 refine Yf ?_
 unfold aCG
 refine Ya ?_
 refine aF (σ:=Nat×List App) (fun p=>⟨[(1,.str q),(2,.ref 0 0 0),(5,.own 1 14 0 p.2.length),(6,.int .i64 (p.1:Int))],[.box (stC s),.arr 14 (p.2.map APP)]⟩) (fun p=>p.1<=s.apps.length/\p.2.length<=p.1/\∀ a∈p.2,aEM s a.id) (fun p=>s.apps.length-p.1) (0,[]) ?_ ⟨by simp,by simp,by simp⟩ ?_
 · exact Sub.ofS [some 0,none]
 rintro ⟨i,out⟩ ⟨hi,ho,hv⟩
 simp only at hi ho hv
 unfold aCD
 by_cases hil:i<s.apps.length
 · have hg:s.apps.getD i default=s.apps[i]:=by simp [hil]
   have c42:=fX s.apps[i]
   simp -implicitDefEqProofs(disch:=first|decide|omega)only[↓aA,aC,aB,simprocAttr,bB,a9,hg]
   repeat refine And.intro (by omega) ?_
   refine aE (aI.of (aM:=false) (c42) (.refl rfl) rfl (by simp)) ?_
   cases hlv:live s.apps[i]
   · refine Xh hg ?_
     refine ⟨(i+1,out),?_,⟨by simp only;omega,by simp only;omega,hv⟩,by simp only;omega⟩
     exact Sub.ofS [some 0,some 1]
   cases hqq:(s.apps[i].queue==q)
   · simp -implicitDefEqProofs(disch:=first|decide|omega)only[↓aA,aC,aB,simprocAttr,bB,a9,hg,hqq,bne]
     refine ⟨(i+1,out),?_,⟨by simp only;omega,by simp only;omega,hv⟩,by simp only;omega⟩
     exact Sub.ofS [some 0,some 1]
   simp -implicitDefEqProofs(disch:=first|decide|omega)only[↓aA,aC,aB,simprocAttr,bB,a9,hg,hqq,bne]
   unfold aCH
   refine Ya ?_
   refine aF (σ:=Nat) (fun k=>⟨[(1,.str q),(2,.ref 0 0 0),(5,.own 1 14 0 out.length),(6,.int .i64 (i:Int)),(7,.ref 2 0 0),(8,.int .i64 (k:Int))],[.box (stC s),.arr 14 (out.map APP),.box (bI s.apps[i])]⟩) (fun k=>k<=out.length) (fun k=>out.length-k) 0 (.inl rfl) (by omega) ?_
   intro k hk
   unfold aCE
   by_cases hkl:k<out.length
   · have hgk:out.getD k default=out[k]:=by simp [hkl]
     by_cases hp:out[k].prio>=s.apps[i].prio
     · simp -implicitDefEqProofs(disch:=first|decide|omega)only[↓aA,aC,aB,simprocAttr,bB,a9,hgk]
       repeat refine And.intro (by omega) ?_
       exact ⟨k+1,.inl rfl,by omega,by omega⟩
     · simp -implicitDefEqProofs(disch:=first|decide|omega)only[↓aA,aC,aB,simprocAttr,bB,a9,hgk,Nat.sub_zero,if_pos hk,if_pos (show k+(out.length-k)<=out.length from by omega)]
       repeat refine And.intro (by omega) ?_
       refine ⟨(i+1,out.take k++s.apps[i] :: out.drop k),?_,⟨by simp only;omega,by simp;omega,fun a ha=>?_⟩,by simp only;omega⟩
       · have hmin:min k out.length=k:=Nat.min_eq_left hk
         have e1:List.take k (List.take k out)=List.take k out:=by rw [List.take_take,Nat.min_self]
         have e2:List.take (out.length-k) (List.drop k out)=List.drop k out:=List.take_of_length_le (by simp)
         have e3:List.take (k+1) (List.map APP (List.take k out)++[APP s.apps[i]])=List.map APP (List.take k out)++[APP s.apps[i]]:=List.take_of_length_le (by simp;omega)
         have e4:(List.take k out++s.apps[i] :: List.drop k out).map APP=(List.map APP (List.take k out)++[APP s.apps[i]])++List.map APP (List.drop k out):=by simp
         have e5:(List.take k out++s.apps[i] :: List.drop k out).length=k+1+(out.length-k):=by simp;omega
         simp only [hmin,e1,e2,e3,e4,e5]
         exact Sub.ofS [some 0,some 7]
       · rcases List.mem_append.1 ha with h1|h1
         · exact hv a (List.mem_of_mem_take h1)
         · rcases List.mem_cons.1 h1 with rfl|h1
           · exact ⟨_,List.getElem_mem hil,rfl,hlv⟩
           · exact hv a (List.mem_of_mem_drop h1)
   · simp -implicitDefEqProofs(disch:=first|decide|omega)only[↓aA,aC,aB,simprocAttr,bB,a9,Nat.sub_zero,if_pos hk,if_pos (show k+(out.length-k)<=out.length from by omega)]
     repeat refine And.intro (by omega) ?_
     refine ⟨(i+1,out.take k++s.apps[i] :: out.drop k),?_,⟨by simp only;omega,by simp;omega,fun a ha=>?_⟩,by simp only;omega⟩
     · have hmin:min k out.length=k:=Nat.min_eq_left hk
       have e1:List.take k (List.take k out)=List.take k out:=by rw [List.take_take,Nat.min_self]
       have e2:List.take (out.length-k) (List.drop k out)=List.drop k out:=List.take_of_length_le (by simp)
       have e3:List.take (k+1) (List.map APP (List.take k out)++[APP s.apps[i]])=List.map APP (List.take k out)++[APP s.apps[i]]:=List.take_of_length_le (by simp;omega)
       have e4:(List.take k out++s.apps[i] :: List.drop k out).map APP=(List.map APP (List.take k out)++[APP s.apps[i]])++List.map APP (List.drop k out):=by simp
       have e5:(List.take k out++s.apps[i] :: List.drop k out).length=k+1+(out.length-k):=by simp;omega
       simp only [hmin,e1,e2,e3,e4,e5]
       exact Sub.ofS [some 0,some 7]
     · rcases List.mem_append.1 ha with h1|h1
       · exact hv a (List.mem_of_mem_take h1)
       · rcases List.mem_cons.1 h1 with rfl|h1
         · exact ⟨_,List.getElem_mem hil,rfl,hlv⟩
         · exact hv a (List.mem_of_mem_drop h1)
 · have:i=s.apps.length:=by omega
   subst this
   refine Yb ?_
   unfold aCI
   refine Ya ?_
   refine aF (σ:=Nat) (fun k=>⟨[(5,.own 0 14 0 out.length),(10,.own 1 1 0 (out.take k).length),(11,.int .i64 (k:Int))],[.arr 14 (out.map APP),.arr 1 (((out.take k).map App.id).map I64)]⟩) (fun k=>k<=out.length) (fun k=>out.length-k) 0 ?_ (by omega) ?_
   · exact Sub.ofS [some 1,none]
   intro k hk
   unfold aCF
   by_cases hkl:k<out.length
   · have hgk:out.getD k default=out[k]:=by simp [hkl]
     simp -implicitDefEqProofs(disch:=first|decide|omega)only[↓aA,aC,aB,simprocAttr,bB,a9,hgk]
     repeat refine And.intro (by omega) ?_
     refine ⟨k+1,?_,by omega,by omega⟩
     have hmin:min k out.length=k:=Nat.min_eq_left hk
     have e1:List.take k (List.take k out)=List.take k out:=by rw [List.take_take,Nat.min_self]
     have e5:(List.take (k+1) out).length=k+1:=by simp;omega
     have e6:((List.take (k+1) out).map App.id).map I64=(List.map I64 (List.map App.id (List.take k out)))++[AV.int .i64 out[k].id]:=by
      rw [List.take_succ_eq_append_getElem hkl,List.map_append,List.map_append]
      rfl
     simp only [hmin,e1,e5,e6]
     (refine Sub.ofL [some 0,some 3] rfl (by simp) (by decide) (by simp [cQ,AO.ro,AV.ro,AV.roL,names,AO.empty,SB,U8,SI,I64,STR]<;>(try and_intros)<;>rfl) (by simp [AO.bo,AV.bo,AV.boL,names]<;>(try and_intros)<;>rfl) ?_<;>(try simp only [List.map_cons,List.map_nil,cV,AV.ro,AV.roL,AV.bo,AV.boL,names,bK,bE,Nat.reduceBEq,List.getD_cons_zero,List.getD_cons_succ,List.getD_nil,and_true,true_and,Nat.reduceLT,List.length_cons,List.length_nil,Nat.reduceAdd,decide_true,Option.isSome_some,Bool.true_or,Bool.and_self,Option.isSome_none,Bool.false_or,beq_self_eq_true,bL,bM])<;>(try and_intros)<;>(first|done|rfl|exact .inl rfl|exact .inr ⟨rfl,_,_,rfl⟩|(simp;done)|(simp;omega)|(refine .inl ?_;simp;done)|(refine .inl ?_;simp;omega)))
   · have:k=out.length:=by omega
     subst this
     refine Yj ?_
     have ek:((out.map App.id).map I64).length=out.length:=by simp
     exact ⟨out.map App.id,rfl,by simpa using ho,fun id hid=>by
      obtain ⟨a,ha,rfl⟩:=List.mem_map.1 hid
      exact hv a ha⟩
def aN9 (p:List UInt8) (qs:List Queue) (y:AV):Prop:=∃ l:List (List UInt8),y= .sl false 1 (l.map .str)/\l.length=(eT p qs).length/\∀ x∈l,x∈eT p qs
set_option maxHeartbeats 1000000 in
theorem aHj (s:Sta) (h:ST s) (hq:QA s.labels s.qs) (p:List UInt8) (hp:p.length<=60) (k:Int):aW Tryz.prog 243 [.agg (stC s),.str p,.int .i64 k] [] fun y _=>aN9 p s.qs y:=by
 have hz:QZ s.qs:=h.c.qz
 refine cX (aK aVN (by simp) ?_)
 unfold aOx aN9
 have c110:=oQ s.labels s.qs hz p
 unfold bN at c110
 have hK16:(eT p s.qs).length<=16:=by
  unfold eT
  rw [List.length_map]
  exact Nat.le_trans (List.length_filter_le _ _) h.c.q3
 have hK60:∀ x∈eT p s.qs,x.length<=60:=fun x hx=>by
  obtain ⟨y,hy,rfl⟩:=List.mem_map.1 hx
  exact (h.c.qr y (List.mem_filter.1 hy).1).path
 generalize eT p s.qs=K at c110 hK16 hK60 ⊢
 refine Yb ?_
 refine aE (aI.of (aM:=false) (c110) (.refl rfl) rfl (by simp)) ?_
 refine Yb ?_
 unfold aB7
 refine Ya ?_
 refine aF (σ:=Nat×List (List UInt8)) (fun q=>⟨[(2,.int .i64 k),(3,.ref 0 0 0),(7,.sl false 1 (K.map .str)),(8,.sl false 1 (q.2.map .str)),(9,.int .i64 (q.1:Int))],[.box (stC s)]⟩) (fun q=>q.1<=K.length/\q.2.length=q.1/\∀ x∈q.2,x∈K) (fun q=>K.length-q.1) (0,[]) ?_ ⟨by simp,by simp,by simp⟩ ?_
 · exact Sub.ofS [some 0]
 rintro ⟨i,L⟩ ⟨hi,hL,hm⟩
 simp only at hi hL hm
 unfold aB5
 by_cases hik:i<K.length
 case neg =>
  refine Yb ?_
  exact ⟨_,.refl _,L,rfl,by omega,hm⟩
 have hg:K.getD i default=K[i]:=by simp [hik]
 refine Yb ?_
 unfold aB8
 refine Ya ?_
 refine aF (σ:=Nat) (fun j=>⟨[(2,.int .i64 k),(3,.ref 0 0 0),(7,.sl false 1 (K.map .str)),(8,.sl false 1 (L.map .str)),(9,.int .i64 (i:Int)),(10,.int .i64 (j:Int))],[.box (stC s)]⟩) (fun j=>j<=L.length) (fun j=>L.length-j) 0 (.inl rfl) (by omega) ?_
 intro j hj
 unfold aB6
 have fin:∀ j,j<=L.length->∀ z∈L.take j++[K[i]]++L.drop j,z∈K:=fun j hj z hz=>by
  simp only [List.mem_append,List.mem_singleton] at hz
  rcases hz with (hz|rfl)|hz
  · exact hm z (List.mem_of_mem_take hz)
  · exact List.getElem_mem hik
  · exact hm z (List.mem_of_mem_drop hz)
 by_cases hjl:j<L.length
 · have hgl:L.getD j default=L[j]:=by simp [hjl]
   have hlast:K[i].length<=60:=hK60 _ (List.getElem_mem hik)
   have hlj:L[j].length<=60:=hK60 _ (hm _ (List.getElem_mem hjl))
   simp -implicitDefEqProofs(disch:=first|decide|omega)only[↓aA,aC,aB,simprocAttr,bB,hg,hgl]
   repeat refine And.intro (by omega) ?_
   refine aH (aYx h hq K[i] hlast L[j] hlj k) rfl (by rintro _ ⟨_,rfl⟩;rfl) ?_
   rintro _ ⟨b,rfl⟩
   cases b
   · simp -implicitDefEqProofs(disch:=first|decide|omega)only[↓aA,aC,aB,simprocAttr,bB]
     repeat refine And.intro (by omega) ?_
     exact ⟨j+1,.inl rfl,by omega,by omega⟩
   · refine Xb hg ?_
     have eL:List.take (min j L.length-0+1+(L.length-j)) (List.take (min j L.length-0+1) (List.map AV.str (List.take (min j L.length-0) (List.take j L))++[AV.str K[i]])++List.map AV.str (List.drop j L))=(L.take j++[K[i]]++L.drop j).map AV.str:=by
      simp [List.take_of_length_le,Nat.min_eq_left hj]
      exact List.take_of_length_le (by simp;omega)
     rw [eL]
     repeat refine And.intro (by omega) ?_
     refine ⟨(i+1,L.take j++[K[i]]++L.drop j),?_,⟨by simp only;omega,by simp;omega,fin j hj⟩,by simp only;omega⟩
     exact Sub.ofS [some 0]
 · have:j=L.length:=by omega
   subst this
   refine Xb hg ?_
   have eL:List.take (L.length-0+1) (List.take (L.length-0+1) (List.map AV.str (List.take (L.length-0) L)++[AV.str K[i]])++List.map AV.str (List.drop L.length L))=(L.take L.length++[K[i]]++L.drop L.length).map AV.str:=by
    simp [List.take_of_length_le]
   rw [eL]
   repeat refine And.intro (by omega) ?_
   refine ⟨(i+1,L.take L.length++[K[i]]++L.drop L.length),?_,⟨by simp only;omega,by simp;omega,fin _ (Nat.le_refl _)⟩,by simp only;omega⟩
   exact Sub.ofS [some 0]
theorem yP (c:UInt8) (s:List UInt8):∀ n,n<=s.length->0<=lW c s n->s.getD (lW c s n).toNat 0=c
 | 0,_,h=>by simp [lW] at h
 | n+1,hn,h=>by
   unfold lW at h ⊢
   split
   · rename_i hc
     simpa using hc
   · rename_i hc
     rw [if_neg hc] at h
     exact yP c s n (by omega) h
theorem aBa {s p:List UInt8} (hp:p≠[]) (h:(dH s).1=p):p.count 46+1<=s.count 46:=by
 unfold dH at h
 split at h
 · exact absurd h.symm hp
 · rename_i hd
   have hr:=zA s
   have ha:=yP dot s s.length (Nat.le_refl _) (by unfold wO at hd;omega)
   change s.getD (wO s).toNat 0=dot at ha
   generalize hk:(wO s).toNat=k at h ha
   have hkl:k<s.length:=by omega
   rw [List.getD_eq_getElem?_getD,List.getElem?_eq_getElem hkl,Option.getD_some] at ha
   simp only at h
   have e:s=p++(s[k] :: s.drop (k+1)):=by rw [<- h,List.getElem_cons_drop,List.take_append_drop]
   have e2:=congrArg (List.count 46) e
   rw [List.count_append,ha] at e2
   unfold dot at e2
   rw [List.count_cons_self] at e2
   omega
theorem yR {ls:List (List UInt8)} {qs:List Queue} (hq:QA ls qs) {p x:List UInt8} (hx:x∈eT p qs):p.count 46+1<=x.count 46/\x.count 46<=3/\x.length<=60:=by
 obtain ⟨y,hy,rfl⟩:=List.mem_map.1 hx
 obtain ⟨hy1,hy2⟩:=List.mem_filter.1 hy
 unfold wJ at hy2
 simp only [Bool.and_eq_true,Bool.not_eq_true',beq_iff_eq,beq_eq_false_iff_ne] at hy2
 have hpp:=hq.dots y hy1
 exact ⟨aBa hy2.1 hy2.2,hpp.1,hpp.2⟩
def aME (n:Nat) (y:AV):Prop:=∃ l:List (List UInt8),y= .sl false 1 (l.map .str)/\l.length<=16^n/\∀ x∈l,x.length<=60
set_option maxHeartbeats 1000000 in
theorem vN (s:Sta) (h:ST s) (hq:QA s.labels s.qs) (k:Int):∀ (n:Nat),n<=3->∀ (p:List UInt8),p.length<=60->3-p.count 46=n->aW Tryz.prog 234 [.agg (stC s),.str p,.int .i64 k] [] fun y _=>aME n y
 | n,hn,p,hp,hd=>by
   refine cX (aK aVS (by simp) ?_)
   unfold aOG
   simp -implicitDefEqProofs(disch:=first|decide|omega)only[↓aA,aC,aB,simprocAttr,bB]
   refine aH (aHj s h hq p hp k) rfl (by rintro _ ⟨_,rfl,_⟩;rfl) ?_
   rintro _ ⟨K,rfl,hK,hm⟩
   have hK16:K.length<=16:=by
    rw [hK]
    unfold eT
    rw [List.length_map]
    exact Nat.le_trans (List.length_filter_le _ _) h.c.q3
   have hkd:∀ x∈K,_:=fun x hx=>yR hq (hm x hx)
   by_cases h0:K=[]
   · subst h0
     simp -implicitDefEqProofs(disch:=first|decide|omega)only[↓aA,aC,aB,simprocAttr,bB]
     exact ⟨_,.refl _,[p],rfl,Nat.one_le_pow _ _ (by decide),by simpa using hp⟩
   have hpos:0<K.length:=List.length_pos_iff.2 h0
   have hd0:=hkd K[0] (List.getElem_mem hpos)
   obtain ⟨m,rfl⟩:∃ m,n=m+1:=⟨n-1,by omega⟩
   simp -implicitDefEqProofs(disch:=first|decide|omega)only[↓aA,aC,aB,simprocAttr,bB]
   unfold aCq
   simp -implicitDefEqProofs(disch:=first|decide|omega)only[↓aA,aC,aB,simprocAttr]
   generalize hM:16^m=M
   refine aF (σ:=Nat×List (List UInt8)) (fun q=>⟨[(2,.int .i64 k),(3,.ref 0 0 0),(7,.sl false 1 (K.map .str)),(8,.own 1 1 0 q.2.length),(9,.int .i64 (q.1:Int))],[.box (stC s),.arr 1 (q.2.map .str)]⟩) (fun q=>q.1<=K.length/\q.2.length<=q.1*M/\∀ x∈q.2,x.length<=60) (fun q=>K.length-q.1) (0,[]) ?_ ⟨by simp,by simp,by simp⟩ ?_
   · exact Sub.ofS [some 0,none]
   rintro ⟨i,L⟩ ⟨hi,hL,hm⟩
   simp only at hi hL hm
   unfold aCp
   by_cases hik:i<K.length
   · have hg:K.getD i default=K[i]:=by simp [hik]
     have hkk:=hkd K[i] (List.getElem_mem hik)
     have hpw:(16:Nat)^(3-K[i].count 46)<=16^m:=Nat.pow_le_pow_right (by decide) (by omega)
     have hpm:(16:Nat)^m<=16^2:=Nat.pow_le_pow_right (by decide) (by omega)
     rw [hM] at hpw hpm
     have hmi:i*M<=16*M:=Nat.mul_le_mul_right _ (by omega)
     simp -implicitDefEqProofs(disch:=first|decide|omega)only[↓aA,aC,aB,simprocAttr,bB,hg]
     repeat refine And.intro (by omega) ?_
     refine aH (vN s h hq k (3-K[i].count 46) (by omega) K[i] hkk.2.2 rfl) rfl (by rintro _ ⟨_,rfl,_⟩;rfl) ?_
     rintro _ ⟨l,rfl,hl1,hl2⟩
     simp -implicitDefEqProofs(disch:=first|decide|omega)only[↓aA,aC,aB,simprocAttr,bB]
     repeat refine And.intro (by omega) ?_
     refine ⟨(i+1,L++l),?_,⟨by simp only;omega,?_,fun x hx=>(List.mem_append.1 hx).elim (hm x) (hl2 x)⟩,by simp only;omega⟩
     · simp only [List.length_append]
       exact Sub.ofS [some 0,some 2]
     · simp only [List.length_append]
       rw [Nat.add_mul,Nat.one_mul]
       omega
   · simp -implicitDefEqProofs(disch:=first|decide|omega)only[↓aA,aC,aB,simprocAttr,bB]
     refine ⟨_,.refl _,L,rfl,Nat.le_trans hL ?_,hm⟩
     rw [Nat.pow_succ,hM,Nat.mul_comm M]
     exact Nat.mul_le_mul_right _ (by omega)
termination_by n=>n
decreasing_by omega
def a0u:{c:CC // aJ Tryz.prog 221=c}:=⟨_,by conv=>lhs;reduce⟩
def aKt:{c:CC // bA Tryz.prog 221 { fz:=[(false,80,[77,78,79])] } a0u.1 [([1,1,1,1,0,1,0,0,1,0,0,0],(.f [0,2,3,4,6,1005,1,7,8,9,10,11])),([1,1,1,1,0,1,0,0,1,0,0,1,0],(.f [0,2,3,4,6,1005,1,7,8,9,10,11])),([1,1,1,1,0,1,0,0,1,0,0,1,1],(.f [0,2,3,4,6,10,11,12,14,1005,1013,1,9,2007,8,2015,16,17,18,19,20])),([1,1,1,1,1,1,1,0,1,0,0,1,0,0],(.f [0,2,3,4,6,7,8,9,1005,1010,1,11,12,13]))]=c}:=⟨_,by conv=>lhs;reduce⟩
def aBT:CC:=(fun (c:CC) (_:(aKt.1.aV [1,1,1,1,1,1,1,0,1,0,0])=c)=>c) _ (by conv=>lhs;reduce)
def aBV:CC:=(fun (c:CC->CC) (_:(fun a0=>(aKt.1.aV [1,1,1,1,1,1,1,0,1]).aU [0,0] a0)=c)=>c) _ (by conv=>lhs;reduce) aBT
def aBS:CC:=(fun (c:CC) (_:(aKt.1.aV [1,1,1,1,0,1,0,0])=c)=>c) _ (by conv=>lhs;reduce)
def aBU:CC:=(fun (c:CC->CC) (_:(fun a0=>(aKt.1.aV [1,1,1,1,0,1]).aU [0,0] a0)=c)=>c) _ (by conv=>lhs;reduce) aBS
def aOg:CC:=(fun (c:CC->CC->CC) (_:(fun a0 a1=>((aKt.1).aU [1,1,1,1,0,1] a0).aU [1,1,1,1,1,1,1,0,1] a1)=c)=>c) _ (by conv=>lhs;reduce) aBU aBV
theorem aRx:aZ Tryz.prog 221 aOg [8] 101:=aZ.of Tryz.f221 Tryz.func221 rfl
def a0e:{c:CC // aJ Tryz.prog 239=c}:=⟨_,by conv=>lhs;reduce⟩
def aKs:{c:CC // bA Tryz.prog 239 {} a0e.1 [([1,1,1,1,0,1,0,0,1,0,0,0],(.f [0,1,2,5,6,7,10,11,12,15,1003,1008,1013,4,9,14,16,17])),([1,1,1,1,1,0,1,0,0,1,0,0,0],(.f [0,1,2,5,6,7,11,12,13,17,3,8,14,2004,2009,10,15,16,18,19]))]=c}:=⟨_,by conv=>lhs;reduce⟩
def aCe:CC:=(fun (c:CC) (_:(aKs.1.aV [1,1,1,1,1,0,1,0,0])=c)=>c) _ (by conv=>lhs;reduce)
def aCg:CC:=(fun (c:CC->CC) (_:(fun a0=>(aKs.1.aV [1,1,1,1,1,0,1]).aU [0,0] a0)=c)=>c) _ (by conv=>lhs;reduce) aCe
def aCd:CC:=(fun (c:CC) (_:(aKs.1.aV [1,1,1,1,0,1,0,0])=c)=>c) _ (by conv=>lhs;reduce)
def aCf:CC:=(fun (c:CC->CC) (_:(fun a0=>(aKs.1.aV [1,1,1,1,0,1]).aU [0,0] a0)=c)=>c) _ (by conv=>lhs;reduce) aCd
def aOB:CC:=(fun (c:CC->CC->CC) (_:(fun a0 a1=>((aKs.1).aU [1,1,1,1,0,1] a0).aU [1,1,1,1,1,0,1] a1)=c)=>c) _ (by conv=>lhs;reduce) aCf aCg
theorem aVO:aZ Tryz.prog 239 aOB [8] 91:=aZ.of Tryz.f239 Tryz.func239 rfl
def aWL (n:Nat) (y:AV):Prop:=∃ l:List Int,y= .sl false 1 (l.map I64)/\l.length=n
theorem iG {m:Bool} {k:IntKind} {a:Int} {K:AV->Prop}:mmK m k a [] K=cM (.int k a) K:=rfl
theorem kC {k:IntKind} {a b:Int} {r:List AV} {K:AV->Prop}:mmK false k a (.int k b :: r) K=mmK false k (min a b) r K:=by
 have:(if b<a then b else a)=min a b:=by omega
 simp only [mmK,true_and,Bool.false_eq_true,if_false,this]
theorem kB {k:IntKind} {a b:Int} {r:List AV} {K:AV->Prop}:mmK true k a (.int k b :: r) K=mmK true k (max a b) r K:=by
 have:(if b>a then b else a)=max a b:=by omega
 simp only [mmK,true_and,if_true,this]
theorem eG (x:Int):(I64 x).cells=[.int .i64 x]:=rfl
set_option maxHeartbeats 1000000 in
theorem aGC (t:Int) (A B C:List Int) (n:Nat) (ha:A.length=n) (hb:B.length=n) (hc:C.length=n) (hn:n<=16):aW Tryz.prog 239 [.int .i64 t,.sl false 1 (A.map I64),.sl false 1 (B.map I64),.sl false 1 (C.map I64)] [] fun y _=>aWL n y:=by
 refine cX (aK aVO (by simp) ?_)
 unfold aOB
 simp -implicitDefEqProofs(disch:=first|decide|omega)only[↓aA,aC,aB,simprocAttr,bB,eG,kC,kB,iG,Int.min_self,Nat.min_self,ha,hb,hc]
 refine aH (aE7 t) rfl (by rintro _ ⟨_,rfl⟩;rfl) ?_
 rintro _ ⟨left,rfl⟩
 simp -implicitDefEqProofs(disch:=first|decide|omega)only[↓aA,aC,aB,simprocAttr,bB,eG,kC,kB,iG,Int.min_self,Nat.min_self]
 unfold aCf
 refine Ya ?_
 refine aF (σ:=Nat×List Int×Int) (fun q=>⟨[(1,.sl false 1 (A.map I64)),(2,.sl false 1 (B.map I64)),(3,.sl false 1 (C.map I64)),(9,.int .i64 (n:Int)),(10,.int .i64 q.2.2),(11,.own 0 1 0 q.2.1.length),(12,.int .i64 (q.1:Int))],[.arr 1 (q.2.1.map I64)]⟩) (fun q=>q.1<=n/\q.2.1.length=q.1) (fun q=>n-q.1) (0,[],left) ?_ ⟨by simp,by simp⟩ ?_
 · exact Sub.ofS [none]
 rintro ⟨i,L,left⟩ ⟨hi,hL⟩
 simp only at hi hL
 unfold aCd
 by_cases hik:i<n
 · have ga:A.getD i default=A[i]:=by simp [ha,hik]
   have gb:B.getD i default=B[i]:=by simp [hb,hik]
   have gc:C.getD i default=C[i]:=by simp [hc,hik]
   simp -implicitDefEqProofs(disch:=first|decide|omega)only[↓aA,aC,aB,simprocAttr,bB,eG,kC,kB,iG,Int.min_self,Nat.min_self,ga,gb,gc,ha,hb,hc]
   repeat refine And.intro (by omega) ?_
   refine aH (aE7 _) rfl (by rintro _ ⟨_,rfl⟩;rfl) ?_
   rintro _ ⟨n1,rfl⟩
   simp -implicitDefEqProofs(disch:=first|decide|omega)only[↓aA,aC,aB,simprocAttr,bB,eG,kC,kB,iG,Int.min_self,Nat.min_self]
   refine aH (aE7 _) rfl (by rintro _ ⟨_,rfl⟩;rfl) ?_
   rintro _ ⟨n2,rfl⟩
   simp -implicitDefEqProofs(disch:=first|decide|omega)only[↓aA,aC,aB,simprocAttr,bB,eG,kC,kB,iG,Int.min_self,Nat.min_self]
   refine aH (aE7 _) rfl (by rintro _ ⟨_,rfl⟩;rfl) ?_
   rintro _ ⟨n3,rfl⟩
   simp -implicitDefEqProofs(disch:=first|decide|omega)only[↓aA,aC,aB,simprocAttr,bB,eG,kC,kB,iG,Int.min_self,Nat.min_self]
   repeat refine And.intro (by omega) ?_
   generalize min (min (min n1 n2) n3) left=v
   refine ⟨(i+1,L++[v],IntKind.i64.wrap (left-v)),?_,⟨by simp only;omega,by simp;omega⟩,by simp only;omega⟩
   simp only [List.map_append,List.map_cons,List.map_nil,List.length_append,List.length_cons,List.length_nil]
   exact Sub.ofS [some 2]
 · simp -implicitDefEqProofs(disch:=first|decide|omega)only[↓aA,aC,aB,simprocAttr,bB,eG,kC,kB,iG,Int.min_self,Nat.min_self]
   unfold aCg
   refine Ya ?_
   have:i=n:=by omega
   subst this
   refine aF (σ:=Nat×List Int×Int) (fun q=>⟨[(2,.sl false 1 (B.map I64)),(3,.sl false 1 (C.map I64)),(9,.int .i64 (i:Int)),(10,.int .i64 q.2.2),(11,.own 0 1 0 i),(14,.int .i64 (q.1:Int))],[.arr 1 (q.2.1.map I64)]⟩) (fun q=>q.1<=i/\q.2.1.length=i) (fun q=>i-q.1) (0,L,left) ?_ ⟨by simp,hL⟩ ?_
   · simp only [hL]
     exact Sub.ofS [some 0]
   rintro ⟨j,L,left⟩ ⟨hj,hL⟩
   simp only at hj hL
   unfold aCe
   by_cases hjk:j<i
   · have gb:B.getD j default=B[j]:=by simp [hb,hjk]
     have gc:C.getD j default=C[j]:=by simp [hc,hjk]
     have gl:L.getD j default=L[j]:=by simp [hL,hjk]
     simp -implicitDefEqProofs(disch:=first|decide|omega)only[↓aA,aC,aB,simprocAttr,bB,eG,kC,kB,iG,Int.min_self,Nat.min_self,gb,gc,gl,hb,hc,hL]
     repeat refine And.intro (by omega) ?_
     refine a7 (aE7 _) rfl (by rintro _ ⟨_,rfl⟩;rfl) ?_
     rintro _ ⟨n1,rfl⟩
     simp -implicitDefEqProofs(disch:=first|decide|omega)only[↓aA,aC,aB,simprocAttr,bB,eG,kC,kB,iG]
     refine a7 (aE7 _) rfl (by rintro _ ⟨_,rfl⟩;rfl) ?_
     rintro _ ⟨n2,rfl⟩
     simp -implicitDefEqProofs(disch:=first|decide|omega)only[↓aA,aC,aB,simprocAttr,bB,eG,kC,kB,iG,gl,hL]
     repeat refine And.intro (by omega) ?_
     have eu:∀ v:Int,(L.map I64).set j (dS ((L.map I64).getD j .top) 0 1 [.int .i64 v])=(L.set j v).map I64:=fun v=>aKF
     rw [eu]
     generalize min (max (IntKind.i64.wrap (min n1 n2-L[j])) 0) left=v
     refine ⟨(j+1,L.set j (IntKind.i64.wrap (L[j]+v)),IntKind.i64.wrap (left-v)),?_,⟨by simp only;omega,by simp;omega⟩,by simp only;omega⟩
     exact .inl rfl
   · simp -implicitDefEqProofs(disch:=first|decide|omega)only[↓aA,aC,aB,simprocAttr,bB,hL]
     rw [List.take_of_length_le (Nat.le_of_eq hL)]
     exact ⟨_,.refl _,L,rfl,hL⟩
end Go.Proofs.YtakemdamegfcfaaGreat
