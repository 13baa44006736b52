/- The law of misses. -/
import Derived.Test.YtiplelpjhgnmoaaGreatMTran1
set_option maxRecDepth 100000
set_option linter.unusedVariables false
namespace Go.Lift
open Go
def zO(p:Prog)(size:Int):Int:=if bX p=true then(if 0≤size∧size≤40 then(cY size.toNat [] ((rX p).take 600):Int) else-1) else-1
theorem o0{n:Nat}(hn:20000≤n){p:Prog}(hp:SmP p)(size:Int):bW n p size=some (zO p size):=by
 unfold bW zO
 rw [eZ (by omega) hp]
 by_cases hv:bX p=true
 ·rw [if_pos hv,hv]
  show Option.bind (fS n p) _=_
  rw [aFR hn hp hv]
  show Option.bind (m_lru _ size) _=_
  have hl:((rX p).take 600).length≤600:=by rw [List.length_take];omega
  unfold m_lru
  by_cases h:0≤size∧size≤40
  ·rw [if_pos ⟨hl,h⟩,if_pos h];rfl
  ·rw [if_neg (fun e=>h e.2),if_neg h];rfl
 ·rw [if_neg hv,Bool.eq_false_iff.2 hv];rfl
theorem B7{n:Nat}(hn:20000≤n){p:Prog}(hp:SmP p)(size:Int):eO n p size=some (zO p size):=by
 unfold eO zO
 have hV:=oP (n:=n) (by omega) hp
 rw [hV]
 by_cases hv:bX p=true
 ·rw [if_pos hv,hv]
  show Option.bind (fN n p) _=_
  rw [aFy hn (by rw [hV,hv]) hv]
  show Option.bind (fW n _ size) _=_
  have hl:((rX p).take 600).length≤600:=by rw [List.length_take];omega
  by_cases h:0≤size∧size≤40
  ·rw [aGP hn hl h.1 h.2,if_pos h];rfl
  ·rw [aGO (fun e=>h e.2),if_neg h];rfl
 ·rw [if_neg hv,Bool.eq_false_iff.2 hv];rfl
theorem zN{p q:Prog}{size:Int}(hv:bX p=true)(hw:bX q=true)(h:rX q=rX p):zO q size=zO p size:=by
 unfold zO
 rw [if_pos hv,if_pos hw,h]
theorem aGG{p:Prog}(hp:BG 1000 p)(part loop b size:Int)(h:(sB p part loop b).2=true):zO (sB p part loop b).1 size=zO p size:=by
 have hq:sB p part loop b=((sB p part loop b).1,true):=by rw [←h]
 obtain⟨hc,hc1,hb,hm⟩:=aIS hq
 obtain⟨hv,i,k1,P,l,rfl,hk1,hP,hl,hi,hkl,hok,hk⟩:=pE hc1
 obtain⟨_,i0,k,P0,l0,hi0,rfl,_⟩:=pE hc
 obtain rfl:k1=k+1:=by omega
 rw [hk1,pW hP hl] at hm
 obtain⟨e,hw⟩:=aDJ hm
 have hw':bX (sB p (i:Int) (k:Int) b).1=true:=by rw [e];exact hw
 obtain⟨a1,a2,_⟩:=X8 hv hP hl (M3 k hb).1 (aKy b hk) e hw'
 exact zN hv hw' (S7 a1 a2)
theorem aFr{p:Prog}(hp:BG 1000 p)(part loop b size:Int)(h:(mQ p part loop b).2=true):zO (mQ p part loop b).1 size=zO p size:=by
 have hq:mQ p part loop b=((mQ p part loop b).1,true):=by rw [←h]
 obtain⟨hc,hb,hm⟩:=aGK hq
 obtain⟨hv,i,k,P,l,rfl,rfl,hP,hl,hi,hkl,hok,hk⟩:=pE hc
 rw [pW hP hl] at hm
 obtain⟨e,hw⟩:=aDJ hm
 have hw':bX (mQ p (i:Int) (k:Int) b).1=true:=by rw [e];exact hw
 obtain⟨a1,a2,_⟩:=X8 hv hP hl (b:=sA b) rfl (aKx b k) e hw'
 exact zN hv hw' (S7 a1 a2)
theorem aFo{p:Prog}(hp:BG 1000 p)(part loop b size:Int)(h:(qT p part loop b).2=true):zO (qT p part loop b).1 size=zO p size:=by
 have hc:iT p part loop=true:=by
  cases hx:iT p part loop with
  |true=>rfl
  |false=>rw [t7 (by rw [hx];simp)] at h;cases h
 obtain⟨hv,i,k,P,l,rfl,rfl,hP,hl,hi,hkl,hok,hk⟩:=pE hc
 rw [yY hP hl] at h⊢
 by_cases hcc:iT p (i:Int) (k:Int)=true∧P.nest.length<4∧(1≤b∧b≤6)∧uY l=true
 ·rw [if_pos hcc] at h⊢
  obtain⟨_,h4,hb,hf⟩:=hcc
  obtain⟨e,hw⟩:=aDJ (q:=(E6 ⟨p.arrays,p.parts.set i (kH k b P l)⟩).1) (p:=⟨p.arrays,p.parts.set i (kH k b P l)⟩) (by rw [←h])
  have hw':bX (E6 ⟨p.arrays,p.parts.set i (kH k b P l)⟩).1=true:=by rw [e];exact hw
  obtain⟨a1,a2,_⟩:=aFm hv hP hl hb.1 h4 hf e hw'
  exact zN hv hw' (S7 a1 a2)
 ·rw [if_neg hcc] at h;cases h
theorem aD1(code:List UInt8):Ev (d4 N code) (fun x=>BG 1000 x.1):=by
 have hN:N=100000:=rfl
 unfold d4
 refine aJ (aI2 code) (fun r hr=>aJ (aDz hr (by omega)) (fun x hx=>aJ (aI7 (by omega) hx.2 (by omega) hx.1) (fun y hy=> ?_)))
 have hz:Ev (pS N y.2) (fun _=>True):=by
  unfold pS
  exact aJ (aG0 hy.2 (by omega) (by simp)) (fun z _=>Ev.some trivial)
 exact aJ hz (fun z _=>Ev.some (hy.1.mono (show 30≤1000 by omega)))
theorem xE(code more:List UInt8):gT N code more=some true:=by
 have hN:N=100000:=rfl
 refine Ev.eq ?_
 unfold gT
 refine aKL (fun hml=>aJ (aD1 code) (fun x1 hp=> ?_))
 obtain⟨p,size⟩:=x1
 dsimp only at hp⊢
 have h1:=o0 (n:=N) (by omega) hp.sm size
 refine aB h1 ?_
 refine Ev.jn (fun z:Bool=>True) (fun j hj=>aB (B7 (by omega) hp.sm size) (iY (fun h=>(h rfl).elim) (fun _=>hj _ trivial))) (fun z _=> ?_)
 refine Ev.cond (fun _=>aB (B7 (by omega) hp.sm size) (Ev.some (by simp))) (fun _=> ?_)
 have gA:=aGH hp 0 0 (wr (1+(Int.tmod (more.length:Int) 2)))
 have gB:=aFs hp 0 0 1
 have gC:=aFp hp 0 0 2
 refine aB (aFQ (by omega) hp 0 0 _) (aB (aDH (by omega) hp 0 0 1) (aB (aDG (by omega) hp 0 0 2) ?_))
 have mA:=aGG hp 0 0 (wr (1+(Int.tmod (more.length:Int) 2))) size
 have mB:=aFr hp 0 0 1 size
 have mC:=aFo hp 0 0 2 size
 generalize sB p 0 0 _=A at gA mA⊢
 generalize mQ p 0 0 1=B at gB mB⊢
 generalize qT p 0 0 2=C at gC mC⊢
 have iA:=o0 (n:=N) (by omega) gA.sm size
 have iB:=o0 (n:=N) (by omega) gB.sm size
 have iC:=o0 (n:=N) (by omega) gC.sm size
 rw [iA,iB,iC]
 refine Ev.jn (fun z=>z=true) (fun j hj=> ?_) (fun z hz=>Ev.some hz)
 obtain⟨A1,a⟩:=A
 obtain⟨B1,b⟩:=B
 obtain⟨C1,c⟩:=C
 dsimp only at mA mB mC⊢
 have hj':=hj true rfl
 cases a<;>cases b<;>cases c<;>simp_all
end Go.Lift
