/- A strip mined program does the same; the law. -/
import Derived.Test.YtdcjmccimcppbaaGreatFTran1
set_option maxRecDepth 100000
set_option linter.unusedVariables false
namespace Go.Lift
open Go
theorem aA6(c:Int)(p:List Int):cT (zA c) p=c:=by
 unfold cT zA
 match p with
 | []=>simp [zR]
 | [a]=>simp [zR]
 | [a,b]=>simp [zR]
 | [a,b,d]=>simp [zR]
 |a::b::d::e::r=>simp [zR]
theorem aHo{k:Nat}(hk:k<4){p:List Int}(hp:p.length=k)(s c t:Int):cT (vA k s c) (p++[t])=c+s*t:=by
 unfold cT vA
 rcases(show k=0∨k=1∨k=2∨k=3 by omega) with rfl|rfl|rfl|rfl
 ·obtain rfl:=List.length_eq_zero_iff.1 hp
  simp [zR]
 ·obtain⟨a,rfl⟩:=List.length_eq_one_iff.1 hp
  simp [zR]
 ·match p,hp with
  | [a,b],_=>simp [zR]
 ·match p,hp with
  | [a,b,d],_=>simp [zR]
def sg(k:Nat)(lo s:Int)(p:List Int):List Int:=p.take k++(p.getD k 0-lo) / s::p.drop k
theorem aKp{k:Nat}{lo s:Int}{p:List Int}(hk:k<p.length)(v:Int):sg k lo s (p++[v])=sg k lo s p++[v]:=by
 unfold sg
 rw [List.take_append_of_le_length (by omega),aFP hk,List.drop_append_of_le_length (by omega)]
 simp
theorem aLn{k:Nat}{lo s:Int}{p:List Int}(hk:p.length=k){v t:Int}(h1:lo+s*t≤v)(h2:v<lo+s*t+s):sg k lo s (p++[v])=p++[t]++[v]:=by
 subst hk
 unfold sg
 rw [List.take_append_of_le_length (Nat.le_refl _),List.take_length,aFQ,List.drop_append_of_le_length (Nat.le_refl _),List.drop_length]
 have e:(v-lo) / s=t:=by
  rw [show v-lo=(v-lo-s*t)+s*t by omega,Int.add_mul_ediv_left _ _ (by omega),Int.ediv_eq_zero_of_lt (by omega) (by omega)]
  omega
 rw [e];simp
theorem aE7{k:Nat}{lo s:Int}{x:Affine}(hx:bX x=true){p:List Int}(hk:k<p.length)(h3:p.length≤3):cT (kY k x) (sg k lo s p)=cT x p:=by
 obtain⟨a,b,c,d,e⟩:=aFD (gO hx).1
 obtain⟨cs,k0⟩:=x
 dsimp only at e
 subst e
 unfold cT kY sg
 match p,hk,h3 with
 | [u],hk,_=>
  obtain rfl:k=0:=by simp at hk;omega
  simp [zR]
 | [u,v],hk,_=>
  rcases(show k=0∨k=1 by simp at hk;omega) with rfl|rfl<;>simp [zR]
 | [u,v,w],hk,_=>
  rcases(show k=0∨k=1∨k=2 by simp at hk;omega) with rfl|rfl|rfl<;>simp [zR]
theorem aEK{a b:Int}(h1:a≤b): ∀n:Nat,jL a b++jL b (b+n)=jL a (b+n)
 |0=>by rw [show b+((0:Nat):Int)=b by omega,fK (Int.le_refl b),List.append_nil]
 |n+1=>by
  rw [show b+((n+1:Nat):Int)=b+n+1 by omega,jS (show b≤b+(n:Int) by omega),jS (show a≤b+(n:Int) by omega),←List.append_assoc,aEK h1 n]
theorem aGJ{a b c:Int}(h1:a≤b)(h2:b≤c):jL a b++jL b c=jL a c:=by
 have:=aEK h1 (c-b).toNat
 rwa [show b+(((c-b).toNat:Nat):Int)=c by omega] at this
theorem M5{lo hi s:Int}(hs:0<s): ∀n:Nat,(jL 0 (n:Int)).flatMap (fun t=>jL (lo+s*t) (min hi (lo+s*t+s)))=jL lo (min hi (lo+s*(n:Int)))
 |0=>by
  have h9:s*((0:Nat):Int)=0:=Int.mul_zero s
  rw [fK (by omega),fK (by omega)];rfl
 |n+1=>by
  have h0:0≤s*(n:Int):=Int.mul_nonneg (by omega) (by omega)
  have e1:s*((n+1:Nat):Int)=s*(n:Int)+s:=by rw [show((n+1:Nat):Int)=(n:Int)+1 by omega,Int.mul_add,Int.mul_one]
  rw [show((n+1:Nat):Int)=(n:Int)+1 by omega,jS (by omega),List.flatMap_append,M5 hs n]
  simp only [List.flatMap_cons,List.flatMap_nil,List.append_nil]
  rw [show s*((n:Int)+1)=s*(n:Int)+s by rw [Int.mul_add,Int.mul_one]]
  by_cases h:hi≤lo+s*(n:Int)
  ·rw [fK (show min hi (lo+s*(n:Int)+s)≤lo+s*(n:Int) by omega),List.append_nil]
   congr 1;omega
  ·rw [show min hi (lo+s*(n:Int))=lo+s*(n:Int) by omega,aGJ (by omega) (by omega)]
   congr 1;omega
theorem aFx{lo hi s:Int}(hs:1≤s):jL lo hi=(jL 0 (uT lo hi s)).flatMap (fun t=>jL (lo+s*t) (min hi (lo+s*t+s))):=by
 have hq:uT lo hi s=(max 0 (hi-lo)+s-1) / s:=by unfold uT;exact Int.tdiv_eq_ediv_of_nonneg (by omega)
 have h0:0≤uT lo hi s:=by rw [hq];exact Int.ediv_nonneg (by omega) (by omega)
 have h1:=Int.lt_ediv_add_one_mul_self (max 0 (hi-lo)+s-1) (show 0<s by omega)
 rw [←hq,Int.add_mul,Int.one_mul,Int.mul_comm] at h1
 have:=M5 (lo:=lo) (hi:=hi) (show 0<s by omega) (uT lo hi s).toNat
 rw [show(((uT lo hi s).toNat:Nat):Int)=uT lo hi s by omega] at this
 rw [this]
 congr 1;omega
theorem aJI{k:Nat}{lo s:Int}: ∀(ls:List Loop) (p:List Int),(∀l∈ls,w4 l)→k<p.length→p.length+ls.length≤3→pts (ls.map (e9 (kY k))) (sg k lo s p)=(pts ls p).map (sg k lo s)
 | [],p,_,_,_=>rfl
 |l::ls,p,h,hk,h3=>by
  have hl:=h l List.mem_cons_self
  have h3':p.length+(ls.length+1)≤3:=by simpa using h3
  have ev: ∀{as:List Affine},(∀x∈as,bX x=true)→evs (as.map (kY k)) (sg k lo s p)=evs as p:=fun ha=>by
   unfold evs
   rw [List.map_map]
   exact q5 (fun x hx=>aE7 (ha x hx) hk (by omega))
  have e1:jO (e9 (kY k) l) (sg k lo s p)=jO l p:=by unfold jO e9;rw [ev hl.1.2]
  have e2:nF (e9 (kY k) l) (sg k lo s p)=nF l p:=by unfold nF e9;rw [ev hl.2.2]
  simp only [List.map_cons,pts]
  rw [e1,e2,List.map_flatMap]
  refine sP (fun v _=> ?_)
  rw [←aKp hk]
  exact aJI ls (p++[v]) (fun x hx=>h x (List.mem_cons_of_mem _ hx)) (by simp;omega) (by simp;omega)
theorem aIY{k:Nat}{lo hi s:Int}(hs:1≤s){ls:List Loop}(h: ∀l∈ls,w4 l){p:List Int}(hk:p.length=k)(h3:k+1+ls.length≤3):
  pts ((⟨[zA 0],[zA (uT lo hi s)]⟩:Loop)::(⟨[zA lo,vA k s lo],[zA hi,vA k s (lo+s)]⟩:Loop)::ls.map (e9 (kY k))) p=(pts ((⟨[zA lo],[zA hi]⟩:Loop)::ls) p).map (sg k lo s):=by
 have z1: ∀(c:Int) (q:List Int) (x:List Affine),jO ⟨[zA c],x⟩ q=c:=fun c q x=>by unfold jO evs;simp [mx,aA6]
 have z2: ∀(c:Int) (q:List Int) (x:List Affine),nF ⟨x,[zA c]⟩ q=c:=fun c q x=>by unfold nF evs;simp [mn,aA6]
 simp only [pts,z1,z2]
 rw [List.map_flatMap,aFx (lo:=lo) (hi:=hi) hs,List.flatMap_assoc]
 refine sP (fun t ht=> ?_)
 have ht:=(I1.1 ht).1
 have h0:0≤s*t:=Int.mul_nonneg (by omega) ht
 have y1:jO ⟨[zA lo,vA k s lo],[zA hi,vA k s (lo+s)]⟩ (p++[t])=lo+s*t:=by
  unfold jO evs
  simp only [List.map_cons,List.map_nil,mx,List.foldl_cons,List.foldl_nil,aA6,aHo (show k<4 by omega) hk]
  omega
 have y2:nF ⟨[zA lo,vA k s lo],[zA hi,vA k s (lo+s)]⟩ (p++[t])=min hi (lo+s*t+s):=by
  unfold nF evs
  simp only [List.map_cons,List.map_nil,mn,List.foldl_cons,List.foldl_nil,aA6,aHo (show k<4 by omega) hk]
  omega
 rw [y1,y2]
 refine sP (fun v hv=> ?_)
 obtain⟨v1,v2⟩:=I1.1 hv
 rw [←aLn hk v1 (by omega)]
 exact aJI ls (p++[v]) h (by simp;omega) (by simp;omega)
theorem aEN{k:Nat}{lo hi s:Int}(hs:1≤s){ls:List Loop}(h: ∀l∈ls,w4 l)(h3:k+1+ls.length≤3): ∀(os:List Loop) (p:List Int),p.length+os.length=k→
  pts (os++(⟨[zA 0],[zA (uT lo hi s)]⟩:Loop)::(⟨[zA lo,vA k s lo],[zA hi,vA k s (lo+s)]⟩:Loop)::ls.map (e9 (kY k))) p=(pts (os++(⟨[zA lo],[zA hi]⟩:Loop)::ls) p).map (sg k lo s)
 | [],p,hk=>aIY hs h (by simpa using hk) h3
 |o::os,p,hk=>by
  simp only [List.cons_append,pts]
  rw [List.map_flatMap]
  refine sP (fun v _=> ?_)
  exact aEN hs h h3 os (p++[v]) (by simp at hk ⊢; omega)
theorem aFs{list:List Arr}{P:Part}(hP:cI list P=true){k:Nat}{l:Loop}(hl:P.nest[k]? =some l){s:Int}(hs:1≤s)(h4:P.nest.length<4)(hf:nU l=true)(hq:cI list (iK k s P l)=true):
  d8 (iK k s P l)=(d8 P).map (sg k (iJ l.lo) s):=by
 obtain⟨h1,h2⟩:=sH hP
 have hk:=(List.getElem?_eq_some_iff.1 hl).1
 obtain⟨a,b,e0,e1,e2,_,_⟩:=Q3 (h2 l (List.mem_of_getElem? hl)) hf
 rw [E1 hq,E1 hP]
 have e:P.nest=P.nest.take k++l::P.nest.drop (k+1):=by rw [←gF hl,List.take_append_drop]
 have:=aEN (k:=k) (lo:=iJ l.lo) (hi:=iJ l.hi) hs (ls:=P.nest.drop (k+1)) (fun y hy=>h2 y (List.mem_of_mem_drop hy)) (by rw [List.length_drop];omega) (P.nest.take k) [] (by simp;omega)
 have el:(⟨[zA (iJ l.lo)],[zA (iJ l.hi)]⟩:Loop)=l:=by rw [←e1,←e2];exact e0.symm
 rw [el,←e] at this
 exact this
def wQ(i k:Nat)(lo s:Int)(x:Inst):Inst:=if x.part=(i:Int) then⟨x.part,x.stmt,sg k lo s x.point⟩ else x
theorem L3{i k:Nat}{lo s:Int}: ∀x:Inst,x.part≠(i:Int)→wQ i k lo s x=x:=fun x hx=>by unfold wQ;rw [if_neg hx]
theorem instP_strip{i k:Nat}{lo s:Int}{P P':Part}(h1:d8 P'=(d8 P).map (sg k lo s))(h2:P'.body.length=P.body.length):instP i P'=(instP i P).map (wQ i k lo s):=by
 unfold instP
 rw [h1,h2,List.flatMap_map,List.map_flatMap]
 refine sP (fun q _=> ?_)
 rw [List.map_map]
 refine q5 (fun t _=> ?_)
 show _=wQ i k lo s _
 unfold wQ
 rw [if_pos rfl]
theorem L0{p:Prog}(hv:cD p=true){i k:Nat}{P:Part}{l:Loop}(hP:p.parts[i]? =some P)(hk:k<P.nest.length)(h4:P.nest.length<4){lo s:Int}{q:Prog}(hq:q=⟨p.arrays,p.parts.set i (iK k s P l)⟩){x:Inst}(hx:iE p x):
  ∃st st' d,qD p x=some st∧qD q (wQ i k lo s x)=some st'∧fW st d=true∧
   (∀a,gY a d=true→cK q.arrays (if x.part=(i:Int) then fT (kY k) a else a) (wQ i k lo s x).point 0=cK p.arrays a x.point 0)∧
   (st'.write=if x.part=(i:Int) then fT (kY k) st.write else st.write)∧
   (b6 5 st'.value=(b6 5 st.value).map (fun a=>if x.part=(i:Int) then fT (kY k) a else a))∧
   ∀m,tM 5 q.arrays m st'.value (wQ i k lo s x).point=tM 5 p.arrays m st.value x.point:=by
 obtain⟨i',k',P',st,d,e1,e2,e3,e4,e5,e6,e7,e8⟩:=inst_d hv hx
 have hi:=(List.getElem?_eq_some_iff.1 hP).1
 subst hq
 by_cases hxi:x.part=(i:Int)
 ·obtain rfl:i'=i:=by omega
  rw [hP] at e3;cases e3
  have hpt:x.point.length=P.nest.length:=e7.1
  have hev: ∀y,bX y=true→cT (kY k y) (sg k lo s x.point)=cT y x.point:=fun y hy=>aE7 hy (by omega) (by omega)
  have hs:wQ i' k lo s x=⟨x.part,x.stmt,sg k lo s x.point⟩:=by unfold wQ;rw [if_pos hxi]
  refine⟨st,yK (kY k) st,d,e5,?_,e6,fun a ha=> ?_,?_,?_,fun m=> ?_⟩
  ·rw [hs]
   unfold qD
   dsimp only
   rw [e1,Int.toNat_natCast,List.getElem?_set_self hi]
   show((P.body.map (yK (kY k)))[x.stmt.toNat]?)=_
   rw [List.getElem?_map,e2,Int.toNat_natCast,e4];rfl
  ·rw [if_pos hxi,hs]
   exact aD6 (fun y hy=>hev y ((tL ha).2.2 y hy)) _ _
  ·rw [if_pos hxi];rfl
  ·simp only [if_pos hxi]
   exact aEL (kH e6).2.1
  ·rw [hs]
   exact aGq hev _ m (kH e6).2.1
 ·have hs:wQ i k lo s x=x:=L3 x hxi
  refine⟨st,st,d,e5,?_,e6,fun a ha=> ?_,?_,?_,fun m=> ?_⟩
  ·rw [hs,←e5]
   unfold qD
   dsimp only
   rw [List.getElem?_set_ne (by omega)]
  ·rw [if_neg hxi,hs]
  ·rw [if_neg hxi]
  ·simp only [if_neg hxi,List.map_id']
  ·rw [hs]
theorem aFr{p:Prog}(hv:cD p=true){i k:Nat}{P:Part}{l:Loop}(hP:p.parts[i]? =some P)(hl:P.nest[k]? =some l){s:Int}(hs:1≤s)(h4:P.nest.length<4)(hf:nU l=true){q:Prog}(hq:q=⟨p.arrays,p.parts.set i (iK k s P l)⟩)(hw:cD q=true):
  insts q.parts=(insts p.parts).map (wQ i k (iJ l.lo) s)∧(∀x∈insts p.parts,rc q (wQ i k (iJ l.lo) s x)=rc p x∧wc q (wQ i k (iJ l.lo) s x)=wc p x)∧ ∀m,dW q m (insts q.parts)=dW p m (insts p.parts):=by
 have hi:=(List.getElem?_eq_some_iff.1 hP).1
 have hk:=(List.getElem?_eq_some_iff.1 hl).1
 have hok:=(kN hv).2.2.2.1 P (List.mem_of_getElem? hP)
 have hokq:cI p.arrays (iK k s P l)=true:=by
  have:=(kN hw).2.2.2.1
  subst hq
  exact this _ (List.mem_of_getElem? (List.getElem?_set_self hi))
 have e1:insts q.parts=(insts p.parts).map (wQ i k (iJ l.lo) s):=by
  rw [hq]
  exact insts_set hP (instP_strip (aFs hok hl hs h4 hf hokq) (by simp [iK])) L3
 refine⟨e1,fun x hx=> ?_,fun m=> ?_⟩
 ·obtain⟨st,st',d,s1,s2,s3,s4,s5,s6,s7⟩:=L0 hv hP hk h4 (lo:=iJ l.lo) (s:=s) hq (insts_mem hx)
  obtain⟨c1,_,c3,_⟩:=kH s3
  unfold rc wc
  rw [s1,s2]
  dsimp only
  rw [s5,s6,List.map_map,s4 _ c1]
  exact⟨q5 (fun a ha=>s4 a (c3 a ha)),rfl⟩
 ·unfold dW
  rw [e1,List.foldl_map]
  refine P9 (fun x hx m=> ?_)
  obtain⟨st,st',d,s1,s2,s3,s4,s5,s6,s7⟩:=L0 hv hP hk h4 (lo:=iJ l.lo) (s:=s) hq (insts_mem hx)
  obtain⟨c1,_,c3,_⟩:=kH s3
  unfold pB
  rw [s1,s2]
  dsimp only
  rw [s5,s4 _ c1,s7 m]
theorem V4(code more:List UInt8):mL N code more=some true:=by
 have hN:N=100000:=rfl
 refine Ev.eq ?_
 unfold mL kD
 refine aKH (fun hml=>aL (aJB code) (fun x1 hp=> ?_))
 obtain⟨p,part,loop,b⟩:=x1
 dsimp only at hp⊢
 have hR:=aFt hp part loop b
 refine aKG (REST:=fun x4 x5=>_) hR (aDM (by omega) hp part loop b) (aDj (by omega) hp part loop b) (fun h=> ?_)
 have hc:jY p part loop=true:=by
  cases hx:jY p part loop with
  |true=>rfl
  |false=>rw [qM (by rw [hx];simp)] at h;cases h
 obtain⟨hv,i,k,P,l,rfl,rfl,hP,hl,hi,hkl,hok,hk⟩:=P8 hc
 rw [vE hP hl] at hR h⊢
 by_cases hcc:jY p (i:Int) (k:Int)=true∧P.nest.length<4∧(1≤b∧b≤6)∧nU l=true
 ·rw [if_pos hcc] at hR h⊢
  obtain⟨_,h4,hb,hf⟩:=hcc
  obtain⟨e,hw⟩:=aKJ (q:=(C2 ⟨p.arrays,p.parts.set i (iK k b P l)⟩).1) (p:=⟨p.arrays,p.parts.set i (iK k b P l)⟩) (by rw [←h])
  have hw':cD (C2 ⟨p.arrays,p.parts.set i (iK k b P l)⟩).1=true:=by rw [e];exact hw
  obtain⟨a1,a2,a3⟩:=aFr hv hP hl hb.1 h4 hf e hw'
  have r1:=aFq hp.sm hR.sm hv hw' a1 a2
  have r2:=aH9 hp.sm hR.sm hv hw' (by rw [e]) (fun m _=>a3 m) (s:=(more.length:Int)) ⟨by omega,hml⟩
  refine Ev.jn (fun z=>z=true) (fun j hj=>aB r1 (bU (aB r2 (bU ?_)))) (fun z hz=>Ev.some hz)
  have hq:ix (C2 ⟨p.arrays,p.parts.set i (iK k b P l)⟩).1.parts (i:Int)=some (iK k b P l):=by
   rw [e]
   exact aR (List.getElem?_set_self hi)
  refine aB hq (aB (aR hP) (hj _ ?_))
  rw [aM (by omega)]
  refine decide_eq_true ?_
  simp only [iK,List.length_append,List.length_cons,List.length_map,List.length_take,List.length_drop]
  omega
 ·rw [if_neg hcc] at h
  cases h
end Go.Lift
