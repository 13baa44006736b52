/- One loop cut in two: the runs, and the law. -/
import Derived.Test.YtjmaejilmokdgaaGreatSTran1
set_option maxRecDepth 100000
set_option linter.unusedVariables false
namespace Go.Lift
open Go
theorem aCu(a b:Int)(ls:List Loop)(p:List Int):pts ((⟨[zA a],[zA b]⟩:Loop)::ls) p=(jI a b).flatMap (fun v=>pts ls (p++[v])):=by
 have z1:jR ⟨[zA a],[zA b]⟩ p=a:=by unfold jR evs;simp [mx,aHG]
 have z2:n7 ⟨[zA a],[zA b]⟩ p=b:=by unfold n7 evs;simp [mn,aHG]
 simp only [pts,z1,z2]
theorem aCv{a b:Int}{ls:List Loop}{q:List Int}(h:q∈(jI a b).flatMap fun v=>pts ls ([]++[v])):a≤q.getD 0 0∧q.getD 0 0<b:=by obtain⟨v,hv,h⟩:=List.mem_flatMap.1 h;obtain⟨vs,rfl,_⟩:=(yR ls _ _).1 h;exact aA3.1 hv
def M8(i:Nat)(c:Int)(x:Inst):Inst:=if x.part<(i:Int) then x else if x.part=(i:Int) then(if x.point.getD 0 0<c then x else⟨(i:Int)+1,x.stmt,x.point⟩) else⟨x.part+1,x.stmt,x.point⟩
theorem aCh{p:Prog}{i:Nat}{P:Part}{lo hi c:Int}(h1:p.parts[i]? =some P)(h2:lo≤c)(h3:c≤hi)(e:cQ P=pts ((⟨[zA lo],[zA hi]⟩:Loop)::P.nest.drop 1) [])(eA:cQ (oK P lo c)=pts (oK P lo c).nest [])(eB:cQ (oK P c hi)=pts (oK P c hi).nest []):
  insts (vF p i 1 [oK P lo c,oK P c hi]).parts=(insts p.parts).map (M8 i c):=by
 have hi':=(cP.1 h1).1;have ht:(p.parts.take i).length=i:=by rw [pJ];omega
 have hsp:p.parts=p.parts.take i++P::p.parts.drop (i+1):=by
  have:=vBz i p.parts;rw [iC h1] at this;exact this.symm
 have e2:cQ P=cQ (oK P lo c)++cQ (oK P c hi):=by
  rw [e,eA,eB];unfold oK;dsimp only;rw [aCu,aCu,aCu,←aG4 h2 h3,vAS]
 have qA: ∀q∈cQ (oK P lo c),q.getD 0 0<c:=fun q hq=>by
  rw [eA] at hq;unfold oK at hq;dsimp only at hq;rw [aCu] at hq;exact(aCv hq).2
 have qB: ∀q∈cQ (oK P c hi),c≤q.getD 0 0:=fun q hq=>by
  rw [eB] at hq;unfold oK at hq;dsimp only at hq;rw [aCu] at hq;exact(aCv hq).1
 conv=>rhs;rw [hsp]
 show insts (p.parts.take i++[oK P lo c,oK P c hi]++p.parts.drop (i+1))=_;rw [vAG,show [oK P lo c,oK P c hi]++p.parts.drop (i+1)=oK P lo c::oK P c hi::p.parts.drop (i+1) from rfl,insts_two,insts_one,ht,V2,V2];congr 1
 ·exact(O2 (fun x hx=>by
   have:=insts_lt hx;unfold M8;rw [if_pos (by omega)])).symm
 rw [instP_atQ i P,e2,vAS,V2,vAG];congr 1
 ·refine(O2 fun x hx=>?_).symm;obtain⟨q,hq,hx⟩:=List.mem_flatMap.1 hx;obtain⟨x1,x2,x3,x4⟩:=aJS hx;unfold M8;rw [if_neg (by omega),if_pos x1,if_pos (by rw [x2];exact qA q hq)]
 congr 1
 ·refine(tW fun q hq=>?_).symm;unfold atQ;rw [vBA];refine vBD fun j _=>?_;simp only [Function.comp_apply];unfold M8
  have:=qB q hq;rw [if_neg (by dsimp only;omega),if_pos rfl,if_neg (by dsimp only;omega)];simp only [Inst.mk.injEq,and_true];omega
 rw [vBA,vBA,vBA];refine vBD fun x hx=>?_
 have:=insts_lt hx;simp only [Function.comp_apply];unfold M8 kR;dsimp only;rw [if_neg (by omega),if_neg (by omega)];simp only [Inst.mk.injEq,and_true];omega
theorem aDK{p:Prog}{i:Nat}{P:Part}{lo hi c:Int}(h1:p.parts[i]? =some P){x:Inst}(hx:gO p x):iT (vF p i 1 [oK P lo c,oK P c hi]) (M8 i c x)=iT p x∧(M8 i c x).point=x.point:=by
 have hi:=(cP.1 h1).1;obtain⟨i',j,P',s,e1,e2,e3,e4,e5⟩:=hx;have hi':=(cP.1 e3).1;unfold M8;by_cases c1:x.part<(i:Int)
 ·rw [if_pos c1];refine⟨?_,rfl⟩;unfold iT;rw [e1,e2,vAE,vAE,yG (by omega),if_pos (by omega)]
 rw [if_neg c1];by_cases c2:x.part=(i:Int)
 ·rw [if_pos c2]
  have:i'=i:=by omega
  subst this;rw [h1] at e3;cases e3;by_cases c3:x.point.getD 0 0<c
  ·rw [if_pos c3];refine⟨?_,rfl⟩;unfold iT;rw [e1,e2,vAE,vAE,yG (by omega),if_neg (by omega),if_pos (by simp),Nat.sub_self,h1];rfl
  rw [if_neg c3];refine⟨?_,rfl⟩;unfold iT;dsimp only;rw [e1,e2,show((i':Int)+1).toNat=i'+1 by omega,vAE,vAE,yG (by omega),if_neg (by omega),if_pos (by simp),show i'+1-i'=1 by omega,h1];rfl
 rw [if_neg c2];refine⟨?_,rfl⟩;unfold iT;dsimp only;rw [e1,e2,vAE,vAE,show((i':Int)+1).toNat=i'+1 by omega,yG (by omega),if_neg (by omega),if_neg (by simp;omega)];congr 2;simp only [List.length_cons,List.length_nil];omega
theorem aBx(code:List UInt8):Ev (jE N code) (fun x=>BG 1000 x.1):=by unfold jE;exact aK (aCT code) fun x1 h1=>Ev.some h1.1
theorem V7(code more:List UInt8):pI N code more=some true:=by
 have hN:N=100000:=rfl;refine Ev.eq ?_;unfold pI;refine aK5 fun hml=>aK (aBx code) fun x1 hp=>?_;obtain⟨p,part,c⟩:=x1;dsimp only at hp⊢;have hR:=aFP hp part c;refine aK4 (REST:=fun x4 x5=>_) hR (aEe (by omega) hp part c) (aDN (by omega) hp part c) fun h=>?_;have hc:sC p part 0=true:=by
  cases hx:sC p part 0 with
  |true=>rfl
  |false=>rw [pZ (by rw [hx];simp)] at h;cases h
 obtain⟨hv,i,k,P,l,rfl,hk0,hP,hl,hi,hkl,hok,hk⟩:=aBl hc;obtain rfl:k=0:=by omega
 rw [uK hP hl] at hR h⊢;by_cases hcc:sC p (i:Int) 0=true∧oP l=true∧iY l.lo≤c∧c≤iY l.hi
 ·rw [if_pos hcc] at hR h⊢;obtain⟨_,hf,c1,c2⟩:=hcc;obtain⟨a,b,el,ea,eb,_,_⟩:=aCL ((uX hok).2 l (dA hl)) hf;generalize iY l.lo=lo at*;generalize iY l.hi=hi1 at*;subst ea;subst eb;subst el;obtain⟨e,hw⟩:=aK7 (q:=(Q6 (vF p i 1 [oK P lo c,oK P c hi1])).1) (p:=vF p i 1 [oK P lo c,oK P c hi1]) (by rw [←h]);rw [e] at hR⊢;have hq: ∀k,k<2→ ∀y,[oK P lo c,oK P c hi1][k]? =some y→cK p.arrays y=true:=fun k hk y hy=>by
   refine(gL hw).2.2.2.1 y (dA (i:=i+k) ?_);rw [yG (by omega),if_neg (by omega),if_pos (by simp;omega),show i+k-i=k by omega];exact hy
  have hd:P.nest=(⟨[zA lo],[zA hi1]⟩:Loop)::P.nest.drop 1:=by
   have:=iC hl
   rwa [List.drop_zero] at this
  have a1:=aCh hP c1 c2 (by rw [tT hok,←hd]) (tT (hq 0 (by omega) _ rfl)) (tT (hq 1 (by omega) _ rfl));have hst: ∀x∈insts p.parts,iT (vF p i 1 [oK P lo c,oK P c hi1]) (M8 i c x)=iT p x∧(M8 i c x).point=x.point:=fun x hx=>aDK hP (insts_mem hx);have r1:=aFO hp.sm hR.sm hv hw a1 (fun x hx=>by
   unfold rc wc;rw [(hst x hx).1,(hst x hx).2];exact⟨rfl,rfl⟩)
  have r2:=aIn hp.sm hR.sm hv hw rfl (fun m _=>by rw [a1];exact aCg (p:=p) (q:=vF p i 1 [oK P lo c,oK P c hi1]) (σ:=M8 i c) rfl hst) (s:=(more.length:Int)) ⟨by omega,hml⟩;refine Ev.jn (fun z=>z=true) (fun j hj=>aA r1 (b6 (aA r2 (b6 (hj _ ?_))))) fun z hz=>Ev.some hz
  have:=(gL hv).2.2.1;rw [aO (by omega)];refine decide_eq_true ?_;simp only [vF,List.length_append,List.length_cons,List.length_nil,List.length_take,List.length_drop];omega
 rw [if_neg hcc] at h;cases h
end Go.Lift
