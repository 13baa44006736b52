/- A moved program does the same; the laws of shifts and skews. -/
import Derived.Test.YtcnponfkbblhpaaGreatCTran1
set_option maxRecDepth 100000
set_option linter.unusedVariables false
namespace Go.Lift
open Go
theorem J8{p:Prog}(hv:cF p=true){i k:Nat}{P:Part}{l:Loop}(hP:p.parts[i]? =some P)(hk:k<P.nest.length){g:Affine→Affine}{b:Affine}(hb:b.coefs.length=4)(h0:b.coefs.getD k 0=0){q:Prog}(hq:q=⟨p.arrays,p.parts.set i (qK k g (fB k b) P l)⟩){x:Inst}(hx:lJ p x):
  ∃s s' d,pP p x=some s∧pP q (sig i k b x)=some s'∧fQ s d=true∧
   (∀a,gT a d=true→cH q.arrays (if x.part=(i:Int) then fN (fB k b) a else a) (sig i k b x).point 0=cH p.arrays a x.point 0)∧
   (s'.write=if x.part=(i:Int) then fN (fB k b) s.write else s.write)∧
   (bW 5 s'.value=(bW 5 s.value).map (fun a=>if x.part=(i:Int) then fN (fB k b) a else a))∧
   ∀m,sP 5 q.arrays m s'.value (sig i k b x).point=sP 5 p.arrays m s.value x.point:=by
 obtain⟨i',k',P',s,d,e1,e2,e3,e4,e5,e6,e7,e8⟩:=inst_d hv hx
 have hi:=(List.getElem?_eq_some_iff.1 hP).1
 subst hq
 by_cases hxi:x.part=(i:Int)
 ·obtain rfl:i'=i:=by omega
  rw [hP] at e3;cases e3
  have hpt:k<x.point.length:=by rw [e7.1];exact hk
  have hev: ∀y,bM y=true→b6 (fB k b y) (Y9 k b x.point)=b6 y x.point:=fun y hy=>aEm (by rw [(jA hy).1,hb]) h0 hpt
  have hs:sig i' k b x=⟨x.part,x.stmt,Y9 k b x.point⟩:=by unfold sig;rw [if_pos hxi]
  refine⟨s,tS (fB k b) s,d,e5,?_,e6,fun a ha=> ?_,?_,?_,fun m=> ?_⟩
  ·rw [hs]
   unfold pP
   dsimp only
   rw [e1,Int.toNat_natCast,List.getElem?_set_self hi]
   show((P.body.map (tS (fB k b)))[x.stmt.toNat]?)=_
   rw [List.getElem?_map,e2,Int.toNat_natCast,e4];rfl
  ·rw [if_pos hxi,hs]
   exact aDi (fun y hy=>hev y ((sO ha).2.2 y hy)) _ _
  ·rw [if_pos hxi];rfl
  ·simp only [if_pos hxi]
   exact aD0 (jQ e6).2.1
  ·rw [hs]
   exact aFE hev _ m (jQ e6).2.1
 ·have hs:sig i k b x=x:=T2 x hxi
  refine⟨s,s,d,e5,?_,e6,fun a ha=> ?_,?_,?_,fun m=> ?_⟩
  ·rw [hs,←e5]
   unfold pP
   dsimp only
   rw [List.getElem?_set_ne (by omega)]
  ·rw [if_neg hxi,hs]
  ·rw [if_neg hxi]
  ·simp only [if_neg hxi,List.map_id']
  ·rw [hs]
theorem aEN{p:Prog}(hv:cF p=true){i k:Nat}{P:Part}{l:Loop}(hP:p.parts[i]? =some P)(hl:P.nest[k]? =some l){b:Affine}(hb:b.coefs.length=4)(hz:low k b){q:Prog}(hq:q=⟨p.arrays,p.parts.set i (qK k (fun x=>fS x 1 b) (fB k b) P l)⟩)(hw:cF q=true):
  insts q.parts=(insts p.parts).map (sig i k b)∧(∀x∈insts p.parts,rc q (sig i k b x)=rc p x∧wc q (sig i k b x)=wc p x)∧ ∀m,kR q m (insts q.parts)=kR p m (insts p.parts):=by
 have hi:=(List.getElem?_eq_some_iff.1 hP).1
 have hk:=(List.getElem?_eq_some_iff.1 hl).1
 have hok:=(jU hv).2.2.2.1 P (List.mem_of_getElem? hP)
 have hokq:cA p.arrays (qK k (fun x=>fS x 1 b) (fB k b) P l)=true:=by
  have:=(jU hw).2.2.2.1
  subst hq
  exact this _ (List.mem_of_getElem? (List.getElem?_set_self hi))
 have e1:insts q.parts=(insts p.parts).map (sig i k b):=by
  rw [hq]
  exact insts_set hP (instP_move (aEO hok hl hb hz hokq) (by simp [qK])) T2
 refine⟨e1,fun x hx=> ?_,fun m=> ?_⟩
 ·obtain⟨s,s',d,s1,s2,s3,s4,s5,s6,s7⟩:=J8 hv hP hk (g:=fun x=>fS x 1 b) hb (hz k (Nat.le_refl _)) hq (insts_mem hx)
  obtain⟨c1,_,c3,_⟩:=jQ s3
  unfold rc wc
  rw [s1,s2]
  dsimp only
  rw [s5,s6,List.map_map,s4 _ c1]
  exact⟨nS (fun a ha=>s4 a (c3 a ha)),rfl⟩
 ·unfold kR
  rw [e1,List.foldl_map]
  refine L9 (fun x hx m=> ?_)
  obtain⟨s,s',d,s1,s2,s3,s4,s5,s6,s7⟩:=J8 hv hP hk (g:=fun x=>fS x 1 b) hb (hz k (Nat.le_refl _)) hq (insts_mem hx)
  obtain⟨c1,_,c3,_⟩:=jQ s3
  unfold H8
  rw [s1,s2]
  dsimp only
  rw [s5,s4 _ c1,s7 m]
theorem aEP{p q:Prog}(hp:BG 1000 p)(hq:BG 1000 q){i k:Nat}{P:Part}{l:Loop}(hv:cF p=true)(hP:p.parts[i]? =some P)(hl:P.nest[k]? =some l){b:Affine}(hb:b.coefs.length=4)(hz:low k b)(h:zF p (i:Int) (k:Int) (fun x=>fS x 1 b) (fB k b)=(q,true)){s:Int}(hs:0≤s∧s≤1048576):
  lP N p q=some true∧nO N p q s=some true:=by
 rw [uR hP hl] at h
 obtain⟨e,hw⟩:=aJY h
 have hw':cF q=true:=by rw [e];exact hw
 obtain⟨a1,a2,a3⟩:=aEN hv hP hl hb hz e hw'
 exact⟨aEG hp.sm hq.sm hv hw' a1 a2,aHh hp.sm hq.sm hv hw' (by rw [e]) (fun m _=>a3 m) hs⟩
theorem aJJ(s:Int){k:Nat}(hk:k+1<4):low (k+1) (kA k s):=fun j hj=>by
 unfold kA
 rw [List.getD_eq_getElem?_getD,List.getElem?_set_ne (by omega)]
 rcases(show j=0∨j=1∨j=2∨j=3∨4≤j by omega) with rfl|rfl|rfl|rfl|h
 ·rfl
 ·rfl
 ·rfl
 ·rfl
 ·rw [List.getElem?_eq_none (by simpa using h)];rfl
theorem aH4{p q:Prog}{part loop s:Int}(h:u7 p part loop s=(q,true)):fR p part loop=true∧fR p part (loop+1)=true∧(-6≤s∧s≤6)∧zF p part (loop+1) (fun x=>fS x 1 (kA loop.toNat s)) (fB (loop.toNat+1) (kA loop.toNat s))=(q,true):=by
 unfold u7 at h
 split at h
 ·rename_i hc;exact⟨hc.1,hc.2.1,hc.2.2,h⟩
 ·cases h
theorem Z1(code more:List UInt8):m5 N code more=some true:=by
 have hN:N=100000:=rfl
 refine Ev.eq ?_
 unfold m5 kP
 refine aJW (fun hml=>aL (aIK code) (fun x1 hp=> ?_))
 obtain⟨p,part,loop,b⟩:=x1
 dsimp only at hp⊢
 have hR:=aFT hp part loop b
 refine aJV (REST:=fun x4 x5=>_) hR (aE2 (by omega) hp part loop b) (aEI (by omega) hp part loop b) (fun h=> ?_)
 have hq:u7 p part loop b=((u7 p part loop b).1,true):=by rw [←h]
 obtain⟨hc,hc1,hb,hm⟩:=aH4 hq
 obtain⟨hv,i,k1,P,l,rfl,hk1,hP,hl,hi,hkl,hok,hk⟩:=t0 hc1
 obtain⟨_,i0,k,P0,l0,hi0,rfl,_⟩:=t0 hc
 obtain rfl:k1=k+1:=by omega
 rw [hk1] at hm
 obtain⟨r1,r2⟩:=aEP hp hR hv hP hl (b:=kA k b) (vD k hb).1 (aJJ b hk) hm (s:=(more.length:Int)) ⟨by omega,hml⟩
 exact Ev.jn (fun z=>z=true) (fun j hj=>aB r1 (b7 (aB r2 (hj _ rfl)))) (fun z hz=>Ev.some hz)
end Go.Lift
