/- The law of strip mined parallel loops. -/
import Derived.Test.YtiplelpjhgnmoaaGreatUDist1
set_option maxRecDepth 100000
set_option linter.unusedVariables false
namespace Go.Lift
open Go
theorem nC{b a:List Int}(h:b.length=a.length)(j:Nat):(eY b a).getD j 0=b.getD j 0-a.getD j 0:=by
 unfold eY
 rw [List.getD_eq_getElem?_getD,List.getD_eq_getElem?_getD,List.getD_eq_getElem?_getD,List.getElem?_zipWith]
 by_cases hj:j<b.length
 ·rw [List.getElem?_eq_getElem hj,List.getElem?_eq_getElem (show j<a.length by omega)];rfl
 ·rw [List.getElem?_eq_none (by omega),List.getElem?_eq_none (show a.length≤j by omega)];rfl
theorem aEB{k:Nat}{lo s:Int}{p:List Int}(hk:k<p.length){j:Nat}(h:j<k):(sg k lo s p).getD j 0=p.getD j 0:=by
 unfold sg
 rw [List.getD_eq_getElem?_getD,List.getD_eq_getElem?_getD,List.getElem?_append_left (by rw [List.length_take];omega),List.getElem?_take,if_pos h,List.getD_eq_getElem?_getD]
theorem aLA{k:Nat}{lo s:Int}{p:List Int}(hk:k<p.length):(sg k lo s p).getD k 0=(p.getD k 0-lo) / s:=by
 unfold sg
 rw [List.getD_eq_getElem?_getD,List.getElem?_append_right (by rw [List.length_take];omega),List.length_take,Nat.min_eq_left (by omega),Nat.sub_self];rfl
theorem aLz{k:Nat}{lo s:Int}{p:List Int}(hk:k<p.length):(sg k lo s p).getD (k+1) 0=p.getD k 0:=by
 unfold sg
 rw [List.getD_eq_getElem?_getD,List.getElem?_append_right (by rw [List.length_take];omega),List.length_take,Nat.min_eq_left (by omega),show k+1-k=1 by omega,List.getElem?_cons_succ,List.getElem?_drop,Nat.add_zero,List.getD_eq_getElem?_getD]
theorem aGL(k:Nat)(lo s:Int)(p:List Int):(sg k lo s p).length=p.length+1:=by
 unfold sg
 simp only [List.length_append,List.length_cons,List.length_take,List.length_drop]
 omega
theorem aFr{k:Nat}{lo s:Int}{b a:List Int}(hl:b.length=a.length)(hk:k<b.length)(h:E7 (eY (sg k lo s b) (sg k lo s a))=some k∨E7 (eY (sg k lo s b) (sg k lo s a))=some (k+1)):E7 (eY b a)=some k:=by
 have hl2:(sg k lo s b).length=(sg k lo s a).length:=by rw [aGL,aGL,hl]
 rw [G6]
 rw [nC hl]
 rcases h with h|h<;>obtain⟨h1,h2⟩:=G6.1 h<;>rw [nC hl2] at h1
 ·rw [aLA hk,aLA (by omega)] at h1
  refine⟨fun e=>h1 ?_,fun j hj=> ?_⟩
  ·rw [show b.getD k 0=a.getD k 0 by omega];omega
  ·have:=h2 j hj
   rw [nC hl2,aEB hk hj,aEB (by omega) hj] at this
   rw [nC hl];exact this
 ·rw [aLz hk,aLz (by omega)] at h1
  refine⟨h1,fun j hj=> ?_⟩
  have:=h2 j (by omega)
  rw [nC hl2,aEB hk hj,aEB (by omega) hj] at this
  rw [nC hl];exact this
theorem aIb(code:List UInt8):Ev (Option.bind (nB N code) fun x1=>Option.bind (sJ N x1) fun x2=>some (x2.1,x2.2.1,x2.2.2.1)) (fun x=>BG 1000 x.1):=by
 have hN:N=100000:=rfl
 refine aI (aI6 code) (fun x1 r1=>aI (P:=fun x=>BG 1000 x.1) ?_ (fun x2 h2=>Ev.some h2))
 unfold sJ wX
 refine aI (P:=fun x=>BG 1000 x.1) ?_ (fun x h=>Ev.some h)
 refine aI (aFG r1 (by omega)) (fun x1 ⟨h1,r1⟩=>aI (aJc (by omega) r1 (by omega) h1) (fun x2 ⟨h2,r2⟩=>aI (iL N r2 (by omega) (by simp)) (fun x3 ⟨_,r3⟩=>aI (iL N r3 (by omega) (by simp)) (fun x4 ⟨_,r4⟩=>aI (iL N r4 (by omega) (by simp)) (fun x5 ⟨_,r5⟩=>Ev.some (h2.mono (show 30≤1000 by omega)))))))
theorem aFq{p:Prog}(hv:bQ p=true){i k:Nat}{P:Part}{l:Loop}(hP:p.parts[i]? =some P)(hl:P.nest[k]? =some l){s:Int}(hs:1≤s)(h4:P.nest.length<4)(hf:tL l=true){q:Prog}(hq:q=⟨p.arrays,p.parts.set i (eX k s P l)⟩)(hw:bQ q=true)(h:zF p i k=true):
  zF q i k=true∧zF q i (k+1)=true:=by
 obtain⟨a1,a2,a3⟩:=aFo hv hP hl hs h4 hf hq hw
 have hkl:=(List.getElem?_eq_some_iff.1 hl).1
 have key: ∀d∈(jA q i).foldl fN [],¬(E7 d=some k∨E7 d=some (k+1)):=fun d hd hlv=>by
  rcases((q5 (jA q i) [] List.Pairwise.nil).2 d).1 hd with h0|h0
  ·cases h0
  ·obtain⟨x,hx,hdx⟩:=List.mem_filterMap.1 h0
   rw [a1,List.length_map,aH1 a2] at hx
   rw [a1] at hdx
   unfold dif at hdx
   rw [List.getElem?_map,List.getElem?_map] at hdx
   cases ha:(insts p.parts)[x.fromF.toNat]? with
   |none=>rw [ha] at hdx;cases hdx
   |some a=>
    cases hb:(insts p.parts)[x.toF.toNat]? with
    |none=>rw [ha,hb] at hdx;cases hdx
    |some b=>
     rw [ha,hb] at hdx
     simp only [Option.map_some] at hdx
     have hpart: ∀x,(oW i k (kL l.lo) s x).part=x.part:=fun x=>by unfold oW;split<;>rfl
     rw [hpart,hpart] at hdx
     split at hdx
     ·rename_i hab
      cases hdx
      obtain⟨PA,e1,e2,e3,e4,e5⟩:=inst_pt hv (insts_mem (List.mem_of_getElem? ha))
      obtain⟨PB,f1,f2,f3,f4,f5⟩:=inst_pt hv (insts_mem (List.mem_of_getElem? hb))
      rw [hab.1,Int.toNat_natCast,hP] at e1
      rw [hab.2,Int.toNat_natCast,hP] at f1
      cases e1;cases f1
      have g1:(oW i k (kL l.lo) s a).point=sg k (kL l.lo) s a.point:=by unfold oW;rw [if_pos hab.1]
      have g2:(oW i k (kL l.lo) s b).point=sg k (kL l.lo) s b.point:=by unfold oW;rw [if_pos hab.2]
      rw [g1,g2] at hlv
      have hl2:=aFr (show b.point.length=a.point.length by omega) (by omega) hlv
      have hmem:eY b.point a.point∈(jA p i).foldl fN []:=by
       refine((q5 (jA p i) [] List.Pairwise.nil).2 _).2 (.inr (List.mem_filterMap.2 ⟨x,hx,?_⟩))
       unfold dif
       rw [ha,hb]
       dsimp only
       rw [if_pos hab]
      unfold zF at h
      simp only [Bool.not_eq_true',List.any_eq_false,decide_eq_true_eq] at h
      exact h _ hmem hl2
     ·cases hdx
 unfold zF
 simp only [Bool.not_eq_true',List.any_eq_false,decide_eq_true_eq]
 exact⟨fun d hd h2=>key d hd (.inl h2),fun d hd h2=>key d hd (.inr h2)⟩
theorem xA(code more:List UInt8):gL N code more=some true:=by
 have hN:N=100000:=rfl
 refine Ev.eq ?_
 unfold gL fT
 refine aKR (fun hml=>aI (aIb code) (fun x1 hp=> ?_))
 obtain⟨p,part,loop⟩:=x1
 dsimp only at hp⊢
 have hs:wr (1+Int.tmod (more.length:Int) 6)=1+Int.tmod (more.length:Int) 6∧1≤1+Int.tmod (more.length:Int) 6∧1+Int.tmod (more.length:Int) 6≤6:=by
  have h1:=Int.tmod_nonneg 6 (show(0:Int)≤(more.length:Int) by omega)
  have h2:=Int.tmod_lt_of_pos (more.length:Int) (show(0:Int)<6 by omega)
  exact⟨aK (by omega),by omega,by omega⟩
 rw [hs.1]
 obtain⟨_,hs1,hs2⟩:=hs
 generalize 1+Int.tmod (more.length:Int) 6=s at*
 refine aA (aAK (by omega) hp.sm part loop) (Ev.jn (fun z=>z= !(eH p part loop&&zF p part.toNat loop.toNat)) (fun j hj=>aA (aEC (by omega) hp part loop) ?_) (fun z hz=> ?_))
 ·rw [beq_self_eq_true]
  exact bT (hj _ rfl)
 ·subst hz
  cases hvv:(eH p part loop&&zF p part.toNat loop.toNat) with
  |false=>
   refine bW (aA (aEC (by omega) hp part loop) (Ev.some ?_))
   rw [hvv];rfl
  |true=>
   simp only [Bool.and_eq_true] at hvv
   obtain⟨hc,hpar⟩:=hvv
   obtain⟨hv,i,k,P,l,rfl,rfl,hP,hl,hi,hkl,hok,hk⟩:=zU hc
   rw [Int.toNat_natCast,Int.toNat_natCast] at hpar
   have hR:=aFs hp (i:Int) (k:Int) s
   refine bT (aA (aDB (by omega) hp (i:Int) (k:Int) s) (Ev.jn (fun z=>z=true) (fun j hj=> ?_) (fun z hz=>Ev.some hz)))
   rw [yY hP hl] at hR⊢
   by_cases hcc:eH p (i:Int) (k:Int)=true∧P.nest.length<4∧(1≤s∧s≤6)∧tL l=true
   ·rw [if_pos hcc] at hR⊢
    obtain⟨_,h4,hb,hf⟩:=hcc
    cases h2:(zZ ⟨p.arrays,p.parts.set i (eX k s P l)⟩).2 with
    |false=>exact bW (hj _ rfl)
    |true=>
     obtain⟨e,hw⟩:=aKT (q:=(zZ ⟨p.arrays,p.parts.set i (eX k s P l)⟩).1) (p:=⟨p.arrays,p.parts.set i (eX k s P l)⟩) (by rw [←h2])
     have hw':bQ (zZ ⟨p.arrays,p.parts.set i (eX k s P l)⟩).1=true:=by rw [e];exact hw
     obtain⟨r1,r2⟩:=aFq hv hP hl hb.1 h4 hf e hw' hpar
     have hQ:ix (zZ ⟨p.arrays,p.parts.set i (eX k s P l)⟩).1.parts (i:Int)=some (eX k s P l):=by
      rw [e];exact aN (List.getElem?_set_self hi)
     have hnl:(eX k s P l).nest.length=P.nest.length+1:=by
      simp only [eX,List.length_append,List.length_cons,List.length_map,List.length_take,List.length_drop];omega
     have hL: ∀kk:Nat,kk≤k+1→eH (zZ ⟨p.arrays,p.parts.set i (eX k s P l)⟩).1 (i:Int) (kk:Int)=true:=fun kk hkk=>by
      unfold eH
      rw [hw',hQ,Bool.true_and]
      refine decide_eq_true ?_
      rw [hnl];omega
     refine bT (aA (aAK (by omega) hR.sm (i:Int) (k:Int)) ?_)
     rw [hL k (by omega),Int.toNat_natCast,Int.toNat_natCast,r1,aK (by omega),show(k:Int)+1=((k+1:Nat):Int) by omega]
     refine bW (aA (aAK (by omega) hR.sm (i:Int) ((k+1:Nat):Int)) (hj _ ?_))
     rw [hL (k+1) (by omega),Int.toNat_natCast,Int.toNat_natCast,r2];rfl
   ·rw [if_neg hcc]
    exact bW (hj _ rfl)
end Go.Lift
