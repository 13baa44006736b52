/- A moved program does the same; the laws of shifts and skews. -/
import Derived.Test.YtcnponfkbblhpaaGreatBTran1
set_option maxRecDepth 100000
set_option linter.unusedVariables false
namespace Go.Lift
open Go
theorem K1{p:Prog}(hv:cF p=true){i k:Nat}{P:Part}{l:Loop}(hP:p.parts[i]? =some P)(hk:k<P.nest.length){g:Affine→Affine}{b:Affine}(hb:b.coefs.length=4)(h0:b.coefs.getD k 0=0){q:Prog}(hq:q=⟨p.arrays,p.parts.set i (qJ k g (fB k b) P l)⟩){x:Inst}(hx:lH p x):
  ∃s s' d,pM p x=some s∧pM q (sig i k b x)=some s'∧fS s d=true∧
   (∀a,gT a d=true→cH q.arrays (if x.part=(i:Int) then fP (fB k b) a else a) (sig i k b x).point 0=cH p.arrays a x.point 0)∧
   (s'.write=if x.part=(i:Int) then fP (fB k b) s.write else s.write)∧
   (bW 5 s'.value=(bW 5 s.value).map (fun a=>if x.part=(i:Int) then fP (fB k b) a else a))∧
   ∀m,sO 5 q.arrays m s'.value (sig i k b x).point=sO 5 p.arrays m s.value x.point:=by
 obtain⟨i',k',P',s,d,e1,e2,e3,e4,e5,e6,e7,e8⟩:=inst_d hv hx
 have hi:=(List.getElem?_eq_some_iff.1 hP).1
 subst hq
 by_cases hxi:x.part=(i:Int)
 ·obtain rfl:i'=i:=by omega
  rw [hP] at e3;cases e3
  have hpt:k<x.point.length:=by rw [e7.1];exact hk
  have hev: ∀y,bM y=true→bZ (fB k b y) (Z0 k b x.point)=bZ y x.point:=fun y hy=>aEl (by rw [(jA hy).1,hb]) h0 hpt
  have hs:sig i' k b x=⟨x.part,x.stmt,Z0 k b x.point⟩:=by unfold sig;rw [if_pos hxi]
  refine⟨s,tR (fB k b) s,d,e5,?_,e6,fun a ha=> ?_,?_,?_,fun m=> ?_⟩
  ·rw [hs]
   unfold pM
   dsimp only
   rw [e1,Int.toNat_natCast,List.getElem?_set_self hi]
   show((P.body.map (tR (fB k b)))[x.stmt.toNat]?)=_
   rw [List.getElem?_map,e2,Int.toNat_natCast,e4];rfl
  ·rw [if_pos hxi,hs]
   exact aDg (fun y hy=>hev y ((sN ha).2.2 y hy)) _ _
  ·rw [if_pos hxi];rfl
  ·simp only [if_pos hxi]
   exact aDZ (jR e6).2.1
  ·rw [hs]
   exact aFF hev _ m (jR e6).2.1
 ·have hs:sig i k b x=x:=T1 x hxi
  refine⟨s,s,d,e5,?_,e6,fun a ha=> ?_,?_,?_,fun m=> ?_⟩
  ·rw [hs,←e5]
   unfold pM
   dsimp only
   rw [List.getElem?_set_ne (by omega)]
  ·rw [if_neg hxi,hs]
  ·rw [if_neg hxi]
  ·simp only [if_neg hxi,List.map_id']
  ·rw [hs]
theorem aEP{p:Prog}(hv:cF p=true){i k:Nat}{P:Part}{l:Loop}(hP:p.parts[i]? =some P)(hl:P.nest[k]? =some l){b:Affine}(hb:b.coefs.length=4)(hz:low k b){q:Prog}(hq:q=⟨p.arrays,p.parts.set i (qJ k (fun x=>gJ x 1 b) (fB k b) P l)⟩)(hw:cF q=true):
  insts q.parts=(insts p.parts).map (sig i k b)∧(∀x∈insts p.parts,rc q (sig i k b x)=rc p x∧wc q (sig i k b x)=wc p x)∧ ∀m,kP q m (insts q.parts)=kP p m (insts p.parts):=by
 have hi:=(List.getElem?_eq_some_iff.1 hP).1
 have hk:=(List.getElem?_eq_some_iff.1 hl).1
 have hok:=(jV hv).2.2.2.1 P (List.mem_of_getElem? hP)
 have hokq:cA p.arrays (qJ k (fun x=>gJ x 1 b) (fB k b) P l)=true:=by
  have:=(jV hw).2.2.2.1
  subst hq
  exact this _ (List.mem_of_getElem? (List.getElem?_set_self hi))
 have e1:insts q.parts=(insts p.parts).map (sig i k b):=by
  rw [hq]
  exact insts_set hP (instP_move (aEQ hok hl hb hz hokq) (by simp [qJ])) T1
 refine⟨e1,fun x hx=> ?_,fun m=> ?_⟩
 ·obtain⟨s,s',d,s1,s2,s3,s4,s5,s6,s7⟩:=K1 hv hP hk (g:=fun x=>gJ x 1 b) hb (hz k (Nat.le_refl _)) hq (insts_mem hx)
  obtain⟨c1,_,c3,_⟩:=jR s3
  unfold rc wc
  rw [s1,s2]
  dsimp only
  rw [s5,s6,List.map_map,s4 _ c1]
  exact⟨nR (fun a ha=>s4 a (c3 a ha)),rfl⟩
 ·unfold kP
  rw [e1,List.foldl_map]
  refine M0 (fun x hx m=> ?_)
  obtain⟨s,s',d,s1,s2,s3,s4,s5,s6,s7⟩:=K1 hv hP hk (g:=fun x=>gJ x 1 b) hb (hz k (Nat.le_refl _)) hq (insts_mem hx)
  obtain⟨c1,_,c3,_⟩:=jR s3
  unfold I1
  rw [s1,s2]
  dsimp only
  rw [s5,s4 _ c1,s7 m]
theorem aER{p q:Prog}(hp:BG 1000 p)(hq:BG 1000 q){i k:Nat}{P:Part}{l:Loop}(hv:cF p=true)(hP:p.parts[i]? =some P)(hl:P.nest[k]? =some l){b:Affine}(hb:b.coefs.length=4)(hz:low k b)(h:zC p (i:Int) (k:Int) (fun x=>gJ x 1 b) (fB k b)=(q,true)){s:Int}(hs:0≤s∧s≤1048576):
  lM N p q=some true∧nN N p q s=some true:=by
 rw [uQ hP hl] at h
 obtain⟨e,hw⟩:=aJX h
 have hw':cF q=true:=by rw [e];exact hw
 obtain⟨a1,a2,a3⟩:=aEP hv hP hl hb hz e hw'
 exact⟨aEG hp.sm hq.sm hv hw' a1 a2,aHf hp.sm hq.sm hv hw' (by rw [e]) (fun m _=>a3 m) hs⟩
theorem aJH(s:Int)(k:Nat):low k (sA s):=fun j _=>by
 unfold sA
 rcases(show j=0∨j=1∨j=2∨j=3∨4≤j by omega) with rfl|rfl|rfl|rfl|h
 ·rfl
 ·rfl
 ·rfl
 ·rfl
 ·rw [List.getD_eq_getElem?_getD,List.getElem?_eq_none (by simpa using h)];rfl
theorem R0(code more:List UInt8):l9 N code more=some true:=by
 have hN:N=100000:=rfl
 refine Ev.eq ?_
 unfold l9 jP
 refine aJV (fun hml=>aL (aIH code) (fun x1 hp=> ?_))
 obtain⟨p,part,loop,b⟩:=x1
 dsimp only at hp⊢
 have hR:=aEH hp part loop b
 refine aJU (REST:=fun x4 x5=>_) hR (aCW (by omega) hp part loop b) (aCv (by omega) hp part loop b) (fun h=> ?_)
 have hq:pO p part loop b=((pO p part loop b).1,true):=by rw [←h]
 obtain⟨hc,hb,hm⟩:=aFU hq
 obtain⟨hv,i,k,P,l,rfl,rfl,hP,hl,hi,hkl,hok,hk⟩:=L9 hc
 obtain⟨r1,r2⟩:=aER hp hR hv hP hl (b:=sA b) rfl (aJH b k) hm (s:=(more.length:Int)) ⟨by omega,hml⟩
 exact Ev.jn (fun z=>z=true) (fun j hj=>aB r1 (b6 (aB r2 (hj _ rfl)))) (fun z hz=>Ev.some hz)
end Go.Lift
