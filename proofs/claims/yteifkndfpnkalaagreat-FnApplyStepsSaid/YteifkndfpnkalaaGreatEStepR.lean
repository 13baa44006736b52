/- Tools. -/
import Derived.Test.YteifkndfpnkalaaGreatEStepC
set_option maxRecDepth 100000
set_option linter.unusedVariables false
namespace Go.Lift
open Go
open Bool renaming true -> ab
section
def jA(p q:Prog):Prop:=bG p=ab/\q.aQ=p.aQ/\ ∀m,fD p.aQ m->c4 q m (I q.parts)=c4 p m (I p.parts)
variable {p q:Prog}{b a c:Int}
theorem aeq(h:bG p=ab):jA p p:=⟨h,rfl,λ_ _=>rfl⟩
theorem abr{r:Prog}(h:jA p q)(g:jA q r):jA p r:=⟨h.1,g.2.1.trans h.2.1,λm a=>(g.2.2 m (by rw[h.2.1];exact a)).trans (h.2.2 m a)⟩
theorem OY{i k:Nat}{P:Part}{l:Loop}(c:bG p=ab)(d:p.parts[i]? =some P)(n:P.nest[k]? =some l){b:az}(o:b.aT.length=4)(r:low k b)(h:qI p (i:Int) (k:Int) (λx=>dY x 1 b) (eJ k b)=(q,ab)):jA p q:=by
 rw[zl d n] at h;obtain⟨e,s⟩:=tt h;have a:bG q=ab:=by rw[e];exact s
 obtain⟨aN,a2,a3⟩:=ajA c d n o r e a;exact⟨c,by rw[e],λm _=>a3 m⟩
theorem acs(d:qT p a c b=(q,ab)):jA p q:=by obtain⟨e,w,h⟩:=aj7 d;obtain⟨m,i,k,P,l,rfl,rfl,n,o,x,r,s,y⟩:=hZ e;exact OY m n o (b:=iC b) rfl (ajx b k) h
theorem aep(m:qU p a c b=(q,ab)):jA p q:=by
 obtain⟨n,d,o,h⟩:=aj8 m;obtain⟨r,i,eM,P,l,rfl,e,s,w,B,x,y,z⟩:=hZ d;obtain⟨_,C,k,F,G,A,rfl,_⟩:=hZ n;obtain rfl:eM=k+1:=O
 rw[e] at h;exact OY r s w (b:=fs k b) (r0 k o).1 (ajw b z) h
theorem acp(h:qW p a c b=(q,ab)):jA p q:=by
 have w:cO p a c=ab:=by
  cases x:cO p a c with
  |true=>rfl
  |false=>rw[ED (by rw[x];simp)] at h;cases h
 obtain⟨o,i,k,P,l,rfl,rfl,r,s,G,y,z,H⟩:=hZ w;rw[KI r s] at h;by_cases d:cO p (i:Int) (k:Int)=ab/\P.nest.length<4/\(1<=b/\b<=6)/\eG l=ab
 ·rw[aR d] at h;obtain⟨_,A,B,C⟩:=d;obtain⟨e,F⟩:=tt h;have n:bG q=ab:=by rw[e];exact F
  obtain⟨aN,a2,a3⟩:=aj9 o r s B.1 A C e n;exact⟨o,by rw[e],λm _=>a3 m⟩
 rw[aP d] at h;cases h
theorem acr{M:Int}(h:qV p M c=(q,ab)):jA p q:=by
 have A:cO p M 0=ab:=by
  cases r:cO p M 0 with
  |true=>rfl
  |false=>rw[EB (by rw[r];simp)] at h;cases h
 obtain⟨B,i,k,P,l,rfl,C,s,w,g,F,o,G⟩:=hZ A;obtain rfl:k=0:=O
 rw[KH s w] at h;by_cases d:cO p (i:Int) 0=ab/\eG l=ab/\cM l.lo<=c/\c<=cM l.hi
 ·rw[aR d] at h;obtain⟨_,H,K,L⟩:=d;obtain⟨a,b,Q,R,W,_,_⟩:=yK ((gV o).2 l (bx w)) H;generalize cM l.lo=lo at*;generalize cM l.hi=n at*;subst R;subst W;subst Q;obtain⟨e,X⟩:=tt h;have z: ∀k,k<2-> ∀y,[e4 P lo c,e4 P c n][k]? =some y->d' p.aQ y=ab:=λk G y Z=>by
   refine(dZ X).2.2.2.1 y (bx (i:=i+k) ?_);rw[nI O,aP O,aR bQ,show i+k-i=k by omega];exact Z
  have f:P.nest=(⟨[dK lo],[dK n]⟩:Loop)::P.nest.drop 1:=by
   have:=hW w
   rwa [pJ] at this
  have aN:=Yd s K L (by rw[l7 o,<-f]) (l7 (z 0 O _ rfl)) (l7 (z 1 O _ rfl));rw[e];exact⟨B,rfl,λm _=>by rw[aN];exact EC (p:=p) (q:=ga p i 1 [e4 P lo c,e4 P c n]) (σ:=p7 i c) rfl λx r=>Y5 s (fe r)⟩
 rw[aP d] at h;cases h
theorem aff(h:ml p a b=(q,ab)):jA p q:=by obtain⟨c,e,i,k,P,rfl,rfl,l,d,m⟩:=akk h;exact⟨c,d.arr,Tk c e l d m⟩
theorem afg(h:nJ p a b=(q,ab)):jA p q:=by obtain⟨c,m,i,k,P,l,rfl,rfl,n,r,s,w,e,d,o⟩:=ajW h;exact⟨c,d.arr,Tk c m n d o⟩
theorem aer(h:qh p a=(q,ab)):jA p q:=by obtain⟨d,i,s,w,rfl,e,k,l,n,c,o⟩:=agO h;rw[c];exact⟨d,rfl,λm r=>agP d e k l n r⟩
theorem aeu{k:Int}(h:qc p a k=(q,ab)):jA p q:=by obtain⟨d,i,t,P,rfl,rfl,e,l,n,c,o⟩:=agC h;rw[c];exact⟨d,rfl,λm r=>agD d e l n r⟩
theorem aen(h:pE p a=(q,ab)):jA p q:=by
 have c:j5 p a (a+1)=ab:=by
  cases c:j5 p a (a+1) with
  |true=>rfl
  |false=>
   unfold pE at h;rw[aP (by rw[c];simp)] at h;cases h
 obtain⟨i,o,r,rfl,e,k,s⟩:=DI c;obtain⟨l,_,_,d⟩:=tQ c;rw[EE c e k] at h;cases h;exact⟨l,rfl,λm n=>aj' l e k d n⟩
theorem aet(h:rq p a=(q,ab)):jA p q:=by
 unfold rq at h;split at h
 ·rename_i d;cases h;simp only[Bool.and_eq_true] at d;obtain⟨e,c,k⟩:=d;have l:0<=a/\a<(p.parts.length:Int):=fF c;obtain⟨i,rfl⟩: ∃i:Nat,a=i:=⟨a.toNat,O⟩
  exact⟨e,rfl,λm _=>acP e (bp (O:i<p.parts.length)) k m⟩
 cases h
theorem aes(h:rn p=(q,ab)):jA p q:=by
 unfold rn at h;split at h
 ·rename_i a;cases h;exact⟨a,rfl,λm c=>aaO a c⟩
 cases h
theorem aeo{s:Step}(h:nf p s=(q,ab)):jA p q:=by
 unfold nf at h;split at h
 ·split at h
  ·exact aff h
  split at h
  ·exact afg h
  split at h
  ·exact aep h
  split at h
  ·exact acs h
  split at h
  ·exact acp h
  split at h
  ·exact aer h
  split at h
  ·exact aeu h
  split at h
  ·exact acr h
  split at h
  ·exact aen h
  split at h
  ·exact aet h
  exact aes h
 cases h
theorem PR: ∀{l:List Step} {p q:Prog},bG p=ab->o5 l p=(q,ab)->jA p q
 | [],p,q,a,h=>by cases h;exact aeq a
 |s::l,p,q,a,h=>by
  simp only[o5] at h;split at h
  ·rename_i c;exact abr (aeo (q:=(nf p s).1) (by rw[<-c])) (PR ((AX p s).v c) h)
  cases h
theorem acq{l:List Step}(h:pW p l=(q,ab)):jA p q:=by
 unfold pW at h;split at h
 ·rename_i a;exact PR a.1 h
 cases h
end
theorem W'(a c:List UInt8):KP N a c=some ab:=by have B:N=100000:=rfl;refine ad.eq ?_;unfold KP;refine afA λk=>cq (XY a) λo e=>?_;obtain⟨p,l⟩:=o;dsimp only at e⊢;obtain⟨e,m,C⟩:=e;have i:=Y4 p l;refine afz (REST:=λF G=>_) i.Dm (ZQ O e O m) (YQ O e O m) λh=>?_;obtain⟨r,w,x⟩:=acq (p:=p) (l:=l) (q:=(pW p l).1) (by rw[<-h]);have hw:=i.v h;have d:=d5 (n:=N) O i.Dm.sm;rw[hw] at d;exact ad.aD (λz=>z=ab) (λj y=>ae d (bY (ae (acX e.sm i.Dm.sm r hw w x (s:=(c.length:Int)) ⟨O,k⟩) (y _ rfl)))) λz A=>ad.some A
end Go.Lift
