/- The law of shifts and parallel loops. -/
import Derived.Test.YtiplelpjhgnmoaaGreatHDist1
set_option maxRecDepth 100000
set_option linter.unusedVariables false
namespace Go.Lift
open Go
theorem aA0{n:Nat}(hn:20000≤n){a:List (List Int)}(h:a.length≤15000)(h1: ∀x∈a,x.length≤1000):qH n a a=some true:=by
 unfold qH
 refine Ev.eq (dQ (fun h=>absurd rfl h) (fun _=> ?_))
 refine Ev.loop (fun x:Int=> ∃i:Nat,x=i∧i≤a.length) (fun x=>a.length-x.toNat) ?_ n _ ⟨0,rfl,by omega⟩ (by omega)
 rintro again z ⟨i,rfl,hi⟩ hr
 refine aH (fun hlt=> ?_) (fun hge=>Ev.some rfl)
 have hlt:i<a.length:=by omega
 have e1:=List.getElem?_eq_getElem hlt
 refine aB (aQ e1) (aB (aQ e1) (aB (D8 (by omega) (h1 _ (List.getElem_mem hlt))) ?_))
 refine bZ ?_
 rw [aP (by omega)]
 exact hr _ ⟨i+1,by omega,by omega⟩ (by omega)
theorem Z3(e:Int): ∀(b a:List Int) (k:Nat),gC (b.set k (b.getD k 0+e)) (a.set k (a.getD k 0+e))=gC b a
 | [],a,k=>by simp [gC]
 |x::b,[],k=>by simp [gC]
 |x::b,y::a,0=>by
  show(x+e-(y+e))::gC b a=(x-y)::gC b a
  congr 1;omega
 |x::b,y::a,k+1=>by
  show(x-y)::gC (b.set k (b.getD k 0+e)) (a.set k (a.getD k 0+e))=(x-y)::gC b a
  rw [Z3 e b a k]
theorem aFp(c:Int)(p:List Int):bV (sA c) p=c:=by
 unfold bV sA
 match p with
 | []=>simp [tD]
 | [a]=>simp [tD]
 | [a,b]=>simp [tD]
 | [a,b,d]=>simp [tD]
 |a::b::d::e::r=>simp [tD]
theorem aCt(l:List Bool):(I2 l).length≤l.length:=by
 unfold I2
 rw [List.length_map]
 refine Nat.le_trans (List.length_filter_le _ _) ?_
 rw [List.length_range];exact Nat.le_refl _
theorem aCr: ∀(ds l:List (List Int)),(ds.foldl nD l).length≤l.length+ds.length
 | [],l=>by simp
 |d::ds,l=>by
  rw [List.foldl_cons]
  have:=aCr ds (nD l d)
  have:=aC6 l d
  rw [List.length_cons];omega
theorem aLL{p:Prog}(hv:cL p=true)(part:Int):((pD p part).foldl nD []).length≤15000∧ ∀x∈(pD p part).foldl nD [],x.length≤1000:=by
 have hil:=(lA hv).2.2.2.2
 refine⟨?_,fun x hx=> ?_⟩
 ·have h1:=aCr (pD p part) []
  have h2:(pD p part).length≤15000:=Nat.le_trans (List.length_filterMap_le _ _) (R1 hil)
  simp at h1;omega
 ·rcases((I1 (pD p part) [] List.Pairwise.nil).2 x).1 hx with h|h
  ·cases h
  ·obtain⟨d,_,hd⟩:=List.mem_filterMap.1 h
   have:=aFs (fun y hy=>(inst_pt hv (insts_mem hy)).choose_spec.2.2.2.1) hd
   omega
theorem aIz(m:Nat)(ds:List (List Int)):(G6 m ds).length=m:=by
 unfold G6
 have key: ∀(ds:List (List Int)) (l:List Bool),(ds.foldl aEl l).length=l.length:=fun ds=>by
  induction ds with
  |nil=>intro l;rfl
  |cons d ds ih=>intro l;rw [List.foldl_cons,ih,S1]
 rw [key];simp
theorem yE(code:List UInt8):gZ N code=some true:=by
 have hN:N=100000:=rfl
 refine Ev.eq ?_
 unfold gZ jU
 refine aH (fun _=>Ev.some rfl) (fun _=>aL (aKg code) (fun x1 hp=> ?_))
 obtain⟨p,part,loop,b⟩:=x1
 dsimp only at hp⊢
 have hR:=aFP hp part loop b
 refine aLC (REST:=fun x4 x5=>_) hR (aDX (by omega) hp part loop b) (aDu (by omega) hp part loop b) (fun h=> ?_)
 have hq:lV p part loop b=((lV p part loop b).1,true):=by rw [←h]
 obtain⟨hc,hb,hm⟩:=aHc hq
 obtain⟨hv,i,k,P,l,rfl,rfl,hP,hl,hi,hkl,hok,hk⟩:=P4 hc
 rw [u9 hP hl] at hm
 obtain⟨e,hw⟩:=aLE hm
 have hw':cL (lV p (i:Int) (k:Int) b).1=true:=by rw [e];exact hw
 obtain⟨a1,a2,a3⟩:=aF0 hv hP hl (b:=sA b) rfl (aLl b k) e hw'
 have hpart: ∀x,(sig i k (sA b) x).part=x.part:=fun x=>by unfold sig;split<;>rfl
 have hdf:pD (lV p (i:Int) (k:Int) b).1 (i:Int)=pD p (i:Int):=aIv a1 a2 hpart (fun x hx y hy hxy=>by
  unfold sig
  by_cases hxi:x.part=(i:Int)
  ·rw [if_pos hxi,if_pos (by omega)]
   dsimp only
   unfold X6
   rw [aFp,aFp,Z3]
  ·rw [if_neg hxi,if_neg (by omega)])
 have hQ:(lV p (i:Int) (k:Int) b).1.parts[i]? =some (nF k (fun x=>f0 x 1 (sA b)) (fB k (sA b)) P l):=by
  rw [e];exact List.getElem?_set_self hi
 have hnl:(nF k (fun x=>f0 x 1 (sA b)) (fB k (sA b)) P l).nest.length=P.nest.length:=by
  simp only [nF,List.length_append,List.length_cons,List.length_map,List.length_take,List.length_drop];omega
 have p1:=aCm (n:=N) (by omega) hp.sm hv hP
 have p2:=aCm (n:=N) (by omega) hR.sm hw' hQ
 rw [hnl,hdf] at p2
 have d1:=uI (n:=N) (by omega) hp.sm hv hP
 have d2:=uI (n:=N) (by omega) hR.sm hw' hQ
 rw [hdf] at d2
 obtain⟨b1,b2⟩:=aLL hv (i:Int)
 have h4:=(mK hok).1
 refine Ev.jn (fun z=>z.2.2=true) (fun j hj=>aB p1 (aB p2 (aB (D8 (by omega) ?_) (bY (aB d1 (aB d2 (aB (aA0 (by omega) b1 b2) (hj _ rfl)))))))) (fun z hz=>Ev.some hz)
 refine Nat.le_trans (aCt _) ?_
 rw [List.length_map,aIz]
 omega
end Go.Lift
