/- One part made two: the runs, and the law. -/
import Derived.Test.YtdcjmccimcppbaaGreatETran1
import Derived.Test.YtdcjmccimcppbaaGreatEFuseB
set_option maxRecDepth 100000
set_option linter.unusedVariables false
namespace Go.Lift
open Go
theorem I4{α:Type}{R:α→α→Prop}: ∀{L:List α},(∀L1 a L2,L=L1++a::L2→ ∀b∈L2,R a b)→L.Pairwise R
 | [],_=>List.Pairwise.nil
 |x::L,h=>List.pairwise_cons.2 ⟨fun b hb=>h [] x L rfl b hb,I4 (fun L1 a L2 e b hb=>h (x::L1) a L2 (by rw [e];rfl) b hb)⟩
def Z4(i k:Nat)(x:Inst):Inst:=if x.part<(i:Int) then x else if x.part=(i:Int) then(if x.stmt<(k:Int) then x else⟨(i:Int)+1,x.stmt-(k:Int),x.point⟩) else⟨x.part+1,x.stmt,x.point⟩
def atY(i:Int)(a b:Nat)(q:List Int):List Inst:=(List.range b).map fun(k:Nat)=>(⟨i,(k:Int)+(a:Int),q⟩:Inst)
theorem aDh{p:Prog}{i k:Nat}{P:Part}(h1:p.parts[i]? =some P)(hk:k≤P.body.length):
  ∃A Z,insts p.parts=A++((cH P).flatMap (fun q=>atQ (i:Int) k q++atY (i:Int) k (P.body.length-k) q)++Z)∧
   insts (putP p i 1 [iZ P k,kZ P k]).parts=(A++(((cH P).flatMap (atQ (i:Int) k)++(cH P).flatMap (atY (i:Int) k (P.body.length-k)))++Z)).map (Z4 i k):=by
 have hi:=(List.getElem?_eq_some_iff.1 h1).1
 have ht:(p.parts.take i).length=i:=by rw [List.length_take];omega
 have hsp:p.parts=p.parts.take i++P::p.parts.drop (i+1):=by
  have:=List.take_append_drop i p.parts
  rw [List.drop_eq_getElem_cons hi] at this
  rw [show p.parts[i]=P from by rw [List.getElem?_eq_getElem hi] at h1;exact Option.some.inj h1] at this
  exact this.symm
 refine⟨insts (p.parts.take i),((insts (p.parts.drop (i+1))).map (jJ 1)).map (jJ i),?_,?_⟩
 ·conv=>lhs;rw [hsp]
  rw [insts_one,ht,instP_atQ]
  congr 2
  rw [List.flatMap_def,List.flatMap_def]
  congr 1
  refine List.map_congr_left (fun q _=> ?_)
  conv=>lhs;rw [show P.body.length=k+(P.body.length-k) by omega]
  exact aIM _ _ _ _
 ·show insts (p.parts.take i++[iZ P k,kZ P k]++p.parts.drop (i+1))=_
  rw [List.append_assoc,show [iZ P k,kZ P k]++p.parts.drop (i+1)=iZ P k::kZ P k::p.parts.drop (i+1) from rfl,insts_two,ht,List.map_append,List.map_append,List.map_append]
  congr 1
  ·exact(J8 (fun x hx=>by
    have:=insts_lt hx
    unfold Z4
    rw [if_pos (by omega)])).symm
  ·rw [List.append_assoc]
   congr 1
   ·rw [instP_atQ,w9 (P:=iZ P k) (Q:=P) rfl,show(iZ P k).body.length=k from by show(P.body.take k).length=k;rw [List.length_take];omega]
    refine(J8 (fun x hx=> ?_)).symm
    obtain⟨q,_,hx⟩:=List.mem_flatMap.1 hx
    obtain⟨x1,x2,x3,x4⟩:=aEr hx
    unfold Z4
    rw [if_neg (by omega),if_pos x1,if_pos x4]
   ·congr 1
    ·rw [instP_atQ,w9 (P:=kZ P k) (Q:=P) rfl,show(kZ P k).body.length=P.body.length-k from by show(P.body.drop k).length=_;rw [List.length_drop]]
     refine(tK (fun q _=> ?_)).symm
     unfold atQ atY
     rw [List.map_map]
     refine List.map_congr_left (fun j _=> ?_)
     simp only [Function.comp_apply]
     unfold Z4
     rw [if_neg (by dsimp only;omega),if_pos rfl,if_neg (by dsimp only;omega)]
     simp only [Inst.mk.injEq,and_true]
     omega
    ·rw [List.map_map,List.map_map,List.map_map]
     refine List.map_congr_left (fun x hx=> ?_)
     have:=insts_lt hx
     simp only [Function.comp_apply]
     unfold Z4 jJ
     dsimp only
     rw [if_neg (by omega),if_neg (by omega)]
     simp only [Inst.mk.injEq,and_true]
     omega
theorem aE7{p:Prog}{i k:Nat}{P:Part}(h1:p.parts[i]? =some P)(hk:k≤P.body.length){x:Inst}(hx:cN p x):kC (putP p i 1 [iZ P k,kZ P k]) (Z4 i k x)=kC p x∧(Z4 i k x).point=x.point:=by
 have hi:=(List.getElem?_eq_some_iff.1 h1).1
 obtain⟨i',j,P',s,e1,e2,e3,e4,e5⟩:=hx
 have hj:=(List.getElem?_eq_some_iff.1 e4).1
 have hi':=(List.getElem?_eq_some_iff.1 e3).1
 unfold Z4
 by_cases c1:x.part<(i:Int)
 ·rw [if_pos c1]
  refine⟨?_,rfl⟩
  unfold kC
  rw [e1,e2,Int.toNat_natCast,Int.toNat_natCast,D5 (by omega),if_pos (by omega)]
 ·rw [if_neg c1]
  by_cases c2:x.part=(i:Int)
  ·rw [if_pos c2]
   have:i'=i:=by omega
   subst this
   rw [h1] at e3;cases e3
   by_cases c3:x.stmt<(k:Int)
   ·rw [if_pos c3]
    refine⟨?_,rfl⟩
    unfold kC
    rw [e1,e2,Int.toNat_natCast,Int.toNat_natCast,D5 (by omega),if_neg (by omega),if_pos (by simp),Nat.sub_self,h1]
    show(P.body.take k)[j]? =P.body[j]?
    rw [List.getElem?_take,if_pos (by omega)]
   ·rw [if_neg c3]
    refine⟨?_,rfl⟩
    unfold kC
    dsimp only
    rw [e1,e2,show((i':Int)+1).toNat=i'+1 by omega,show((j:Int)-(k:Int)).toNat=j-k by omega,Int.toNat_natCast,Int.toNat_natCast,D5 (by omega),if_neg (by omega),if_pos (by simp),show i'+1-i'=1 by omega,h1]
    show(P.body.drop k)[j-k]? =P.body[j]?
    rw [List.getElem?_drop]
    congr 1
    omega
  ·rw [if_neg c2]
   refine⟨?_,rfl⟩
   unfold kC
   dsimp only
   rw [e1,e2,Int.toNat_natCast,Int.toNat_natCast,show((i':Int)+1).toNat=i'+1 by omega,D5 (by omega),if_neg (by omega),if_neg (by simp;omega)]
   congr 2
   simp only [List.length_cons,List.length_nil]
   omega
theorem aIL{i:Int}{a b:Nat}{q:List Int}{x:Inst}(h:x∈atY i a b q):x.part=i∧x.point=q∧(a:Int)≤x.stmt:=by
 unfold atY at h
 obtain⟨j,hj,rfl⟩:=List.mem_map.1 h
 exact⟨rfl,rfl,by dsimp only;omega⟩
theorem aIB{p:Prog}{a b:Inst}(h:com p a b):com p b a:=fun m hm=>(h m hm).symm
theorem aG9{p:Prog}(hv:bK p=true){i k:Nat}{P:Part}(h1:p.parts[i]? =some P)(hk:k≤P.body.length)(hd:(M9 p).any (wO p (i:Int) (k:Int))=false){m:List Int}(hm:gT p.arrays m):
  cA (putP p i 1 [iZ P k,kZ P k]) m (insts (putP p i 1 [iZ P k,kZ P k]).parts)=cA p m (insts p.parts):=by
 obtain⟨A,Z,e1,e2⟩:=aDh h1 hk
 have hok: ∀x∈A++((cH P).flatMap (fun q=>atQ (i:Int) k q++atY (i:Int) k (P.body.length-k) q)++Z),cN p x:=fun x hx=>insts_mem (by rw [e1];exact hx)
 have hA: ∀x∈A,cN p x:=fun x hx=>hok x (List.mem_append_left _ hx)
 have hX: ∀q∈cH P,∀x∈atQ (i:Int) k q,cN p x:=fun q hq x hx=>hok x (List.mem_append_right _ (List.mem_append_left _ (List.mem_flatMap.2 ⟨q,hq,List.mem_append_left _ hx⟩)))
 have hY: ∀q∈cH P,∀x∈atY (i:Int) k (P.body.length-k) q,cN p x:=fun q hq x hx=>hok x (List.mem_append_right _ (List.mem_append_left _ (List.mem_flatMap.2 ⟨q,hq,List.mem_append_right _ hx⟩)))
 have hZ: ∀x∈Z,cN p x:=fun x hx=>hok x (List.mem_append_right _ (List.mem_append_right _ hx))
 rw [e2,aA9 (p:=p) (q:=putP p i 1 [iZ P k,kZ P k]) (σ:=Z4 i k) rfl (fun x hx=>aE7 h1 hk ?_),e1,fJ p m A,fJ p m A,fJ p (cA p m A) _ Z,fJ p (cA p m A) _ Z,U5 hv hX hY ?_ (nH hv hA hm)]
 ·refine I4 (fun L1 a L2 eL b hb y hy x hx=> ?_)
  have e3:insts p.parts=(A++L1.flatMap (fun q=>atQ (i:Int) k q++atY (i:Int) k (P.body.length-k) q))++((atQ (i:Int) k a++atY (i:Int) k (P.body.length-k) a)++(L2.flatMap (fun q=>atQ (i:Int) k q++atY (i:Int) k (P.body.length-k) q)++Z)):=by
   rw [e1,eL,List.flatMap_append,List.flatMap_cons]
   simp only [List.append_assoc]
  obtain⟨s,t,hst,g1,g2⟩:=aIs (A:=A++L1.flatMap (fun q=>atQ (i:Int) k q++atY (i:Int) k (P.body.length-k) q)) (Z:=Z) (x:=y) (y:=x) (List.mem_append_right _ hy) (W:=L2.flatMap (fun q=>atQ (i:Int) k q++atY (i:Int) k (P.body.length-k) q)) (List.mem_flatMap.2 ⟨b,hb,List.mem_append_left _ hx⟩)
  rw [←e3] at g1 g2
  refine aIB (aHb hv (fun x hx=>insts_mem hx) s t y x hst g1 g2 (fun d hdm hdd=> ?_))
  obtain⟨x1,x2,_,x4⟩:=aEr hx
  obtain⟨y1,y2,y3⟩:=aIL hy
  have:wO p (i:Int) (k:Int) d=true:=by
   unfold wO
   rw [show d.fromF=(s:Int) from hdd.1,show d.toF=(t:Int) from hdd.2,Int.toNat_natCast,Int.toNat_natCast,g1,g2]
   dsimp only
   rw [x1,y1,decide_eq_true rfl,decide_eq_true y3,decide_eq_true x4];rfl
  rw [List.any_eq_true.2 ⟨d,hdm,this⟩] at hd
  cases hd
 ·rcases List.mem_append.1 hx with h|h
  ·exact hA x h
  ·rcases List.mem_append.1 h with h|h
   ·rcases List.mem_append.1 h with h|h
    ·obtain⟨q,hq,h⟩:=List.mem_flatMap.1 h
     exact hX q hq x h
    ·obtain⟨q,hq,h⟩:=List.mem_flatMap.1 h
     exact hY q hq x h
   ·exact hZ x h
theorem aBJ(code:List UInt8):Ev (dS N code) (fun x=>BG 1000 x.1∧ -1≤x.2.1∧x.2.1≤9):=by
 have hN:N=100000:=rfl
 unfold dS
 refine aJ (aIa code) (fun x1 r1=>aJ (P:=fun x=>BG 1000 x.1∧ -1≤x.2.1∧x.2.1≤9) ?_ (fun x2 h2=>Ev.some h2))
 unfold wX
 refine aJ (aEM r1 (by omega)) (fun x1 ⟨h1,r1⟩=>aJ (aIf (by omega) r1 (by omega) h1) (fun x2 ⟨h2,r2⟩=>aJ (iV N r2 (by omega) (by simp)) (fun x3 ⟨m3,r3⟩=>aJ (iV N r3 (by omega) (by simp)) (fun x4 ⟨_,r4⟩=>aJ (iV N r4 (by omega) (by simp)) (fun x5 _=>Ev.some ⟨h2.mono (show 30≤1000 by omega),?_⟩)))))
 simp at m3
 dsimp only
 omega
theorem aHa{p:Prog}(hp:BG 1000 p)(part k:Int):BG 1000 (uX p part k).1:=by
 unfold uX
 split
 ·rename_i hc
  split
  ·rename_i P e1
   split
   ·obtain⟨i1,rfl,_,g1⟩:=aGl e1
    exact aIw (Z3 ((aEp hc.1).mono (show 4≤900 by omega)) (by simp) (M8 hc.1 (List.mem_of_getElem? g1) _))
   ·exact aCR
  ·exact aCR
 ·exact aCR
theorem aIA{p q:Prog}{part k:Int}(h:uX p part k=(q,true)):bK p=true∧ ∃(i t:Nat) (P:Part),part=i∧k=t∧p.parts[i]? =some P∧t≤P.body.length∧(M9 p).any (wO p (i:Int) (t:Int))=false∧q=putP p i 1 [iZ P t,kZ P t]∧bK q=true:=by
 unfold uX at h
 split at h
 ·rename_i hc
  split at h
  ·rename_i P e1
   split at h
   ·rename_i hf
    obtain⟨i1,rfl,_,g1⟩:=aGl e1
    unfold aEh at hf
    simp only [Bool.and_eq_true,Bool.not_eq_true',decide_eq_true_eq] at hf
    obtain⟨t,rfl⟩: ∃t:Nat,k=t:=⟨k.toNat,by omega⟩
    obtain⟨rfl,hq⟩:=aJU h
    exact⟨hc.1,i1,t,P,rfl,rfl,g1,by omega,hf.2,rfl,hq⟩
   ·cases h
  ·cases h
 ·cases h
theorem vR(code more:List UInt8):fZ N code more=some true:=by
 have hN:N=100000:=rfl
 refine Ev.eq ?_
 unfold fZ
 refine aJS (fun hml=>aJ (aBJ code) (fun x1 hp=> ?_))
 obtain⟨p,part,k⟩:=x1
 dsimp only at hp⊢
 obtain⟨hp,hb⟩:=hp
 have hR:=aHa hp part k
 refine aJR (REST:=fun x4 x5=>_) hR (aEY (by omega) hp hb) (aEF (by omega) hp hb) (fun h=> ?_)
 have hq:uX p part k=((uX p part k).1,true):=by rw [←h]
 obtain⟨hv,i,t,P,rfl,rfl,h1,hk,hd,hqe,hqv⟩:=aIA hq
 rw [hqe] at hR hqv⊢
 refine Ev.jn (fun z=>z=true) (fun j hj=> ?_) (fun z hz=>Ev.some hz)
 refine aA (fE (by omega) hR.sm) ?_
 rw [hqv]
 exact bZ (aA (aHj hp.sm hR.sm hv hqv rfl (fun m hm=>aG9 hv h1 hk hd hm) (s:=(more.length:Int)) ⟨by omega,hml⟩) (hj _ rfl))
end Go.Lift
