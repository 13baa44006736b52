import Derived.Test.YtbgbodhagkdffaaGreatDoorChecked
import Derived.Test.YtbgbodhagkdffaaGreatDoorSLiftSort
set_option linter.unusedVariables false
namespace Go.Proofs
open Go.RowKit Go.Lib Go.Lift Go.Proofs.Tryz
theorem Bq: ∀(k:Nat) (xs ys:List Int),k≤xs.length→k≤ys.length→(∀j,j<k→xs.getD j 0=ys.getD j 0)→cmpL xs ys=cmpL (xs.drop k) (ys.drop k)
 |0,xs,ys,_,_,_=>rfl
 |k+1,[],ys,h,_,_=>by simp at h
 |k+1,x::xs,[],_,h,_=>by simp at h
 |k+1,x::xs,y::ys,h1,h2,h=>by have h0:x=y:=h 0 (by omega);subst h0;show(if x<x then(-1:Int) else if x<x then 1 else cmpL xs ys)=_;rw [if_neg (by omega),if_neg (by omega)];exact Bq k xs ys (by simpa using h1) (by simpa using h2) fun j hj=>h (j+1) (by omega)
theorem ajz{k:Nat}{xs ys:List Int}(h1:k<xs.length)(h2:k=ys.length)(h: ∀j,j<k→xs.getD j 0=ys.getD j 0):cmpL xs ys=1:=by rw [Bq k xs ys (by omega) (by omega) h,List.drop_eq_getElem_cons h1,show ys.drop k=[] from List.drop_eq_nil_of_le (by omega)];rfl
theorem ajA{k:Nat}{xs ys:List Int}(h1:k=xs.length)(h2:k<ys.length)(h: ∀j,j<k→xs.getD j 0=ys.getD j 0):cmpL xs ys= -1:=by rw [Bq k xs ys (by omega) (by omega) h,List.drop_eq_getElem_cons h2,show xs.drop k=[] from List.drop_eq_nil_of_le (by omega)];rfl
theorem ajB{k:Nat}{xs ys:List Int}(h1:k=xs.length)(h2:k=ys.length)(h: ∀j,j<k→xs.getD j 0=ys.getD j 0):cmpL xs ys=0:=by rw [Bq k xs ys (by omega) (by omega) h,List.drop_eq_nil_of_le (by omega),List.drop_eq_nil_of_le (by omega)];rfl
theorem ajy{k:Nat}{xs ys:List Int}(h1:k<xs.length)(h2:k<ys.length)(h: ∀j,j<k→xs.getD j 0=ys.getD j 0)(hne:xs.getD k 0≠ys.getD k 0):cmpL xs ys=if xs.getD k 0<ys.getD k 0 then-1 else 1:=by
 rw [Bq k xs ys (by omega) (by omega) h,List.drop_eq_getElem_cons h1,List.drop_eq_getElem_cons h2];have e1:xs.getD k 0=xs[k]:=by simp [List.getD_eq_getElem?_getD,h1]
 have e2:ys.getD k 0=ys[k]:=by simp [List.getD_eq_getElem?_getD,h2]
 rw [e1,e2] at hne⊢;show(if xs[k]<ys[k] then(-1:Int) else if ys[k]<xs[k] then 1 else _)=_;by_cases hlt:xs[k]<ys[k]
 ·rw [if_pos hlt,if_pos hlt]
 rw [if_neg hlt,if_neg hlt,if_pos (by omega)]
set_option maxHeartbeats 2000000 in
set_option maxRecDepth 100000 in
theorem ajG(dQ jP n c dG lF m d:Nat)(xs ys:List Int)(w:World)(hx:xs.length=n)(hy:ys.length=m)(hbig:n≤9223372036854775807)(hbig2:m≤9223372036854775807)(hc1: ∀j,j<xs.length→w.cell? ⟨dQ,jP+j,none⟩=some (.int .i64 (xs.getD j 0)))(hc2: ∀j,j<ys.length→w.cell? ⟨dG,lF+j,none⟩=some (.int .i64 (ys.getD j 0))):
  Calls prog 173 #[.slice (some ⟨dQ,jP,none⟩) n c,.slice (some ⟨dG,lF,none⟩) m d] w fun e bZ=>e= .returned (.int .i64 (cmpL xs ys))∧bZ=w:=by
 go_enter func173,Tryz.ntmps173
 go_wp2
 go_loopg [11] n (fun g s11 wr=> ∃k:Nat,k≤n∧n-k≤g∧s11= .int .i64 k∧wr=w∧k≤m∧ ∀j,j<k→xs.getD j 0=ys.getD j 0)
 case atStart=>exact⟨0,Nat.zero_le _,by omega,rfl,rfl,Nat.zero_le _,fun j hj=>absurd hj (Nat.not_lt_zero _)⟩
 case round=>
  obtain⟨k,hk,b9,rfl,rfl,hkm,heq⟩:=hrel;by_cases hlt:k<n
  ·have g1:wr.cell? ⟨dQ,jP+k,none⟩=some (.int .i64 (xs.getD k 0)):=hc1 k (by omega);by_cases hm:k<m
   ·have g2:wr.cell? ⟨dG,lF+k,none⟩=some (.int .i64 (ys.getD k 0)):=hc2 k (by omega);have A:Aside (∀j,j<k→xs.getD j 0=ys.getD j 0):=heq;clear heq hc1 hc2;generalize hxk:xs.getD k 0=x at g1;generalize hyk:ys.getD k 0=y at g2;have B:Aside (xs.getD k 0=x∧ys.getD k 0=y):=⟨hxk,hyk⟩
    clear hxk hyk;have hkm': ¬((m:Int)≤(k:Int)):=by omega
    by_cases hxy:x=y
    ·subst hxy
     go_wp2
     go_roundg (n-(k+1))
     case measure=>omega
     case rel=>
      refine⟨k+1,by omega,by omega,by go_num,rfl,by omega,fun j hj=>?_⟩;by_cases e:j=k
      ·subst e;rw [B.out.1,B.out.2]
      exact A.out j (by omega)
    have hcm:=ajy (k:=k) (by omega) (by omega) A.out (by rw [B.out.1,B.out.2];exact hxy);rw [B.out.1,B.out.2] at hcm;by_cases hlt2:x<y
    ·rw [if_pos hlt2] at hcm
     go_wp2
     go_ret
     first|exact⟨rfl,rfl⟩|exact⟨by rw [hcm];rfl,rfl⟩|exact⟨by rw [hcm],rfl⟩
    have hgt:y<x:=by omega
    rw [if_neg hlt2] at hcm
    go_wp2
    go_ret
    first|exact⟨rfl,rfl⟩|exact⟨by rw [hcm];rfl,rfl⟩|exact⟨by rw [hcm],rfl⟩
   have hkm':(m:Int)≤(k:Int):=by omega
   have hcm:=ajz (k:=k) (by omega) (by omega) heq;clear heq hc2 hc1
   go_wp2
   go_ret
   first|exact⟨rfl,rfl⟩|exact⟨by rw [hcm];rfl,rfl⟩|exact⟨by rw [hcm],rfl⟩
  have hkn:k=n:=by omega
  subst hkn;clear hc1 hc2;by_cases hnm:k<m
  ·have hcm:=ajA (k:=k) (by omega) (by omega) heq;have h9:(k:Int)<(m:Int):=by omega
   go_wp2
   go_ret
   first|exact⟨rfl,rfl⟩|exact⟨by rw [hcm];rfl,rfl⟩|exact⟨by rw [hcm],rfl⟩
  have hcm:=ajB (k:=k) (by omega) (by omega) heq;have h9: ¬(k:Int)<(m:Int):=by omega
  go_wp2
  go_ret
  first|exact⟨rfl,rfl⟩|exact⟨by rw [hcm];rfl,rfl⟩|exact⟨by rw [hcm],rfl⟩
set_option maxHeartbeats 2000000 in
set_option maxRecDepth 100000 in
theorem ajF(aW a2:Option Addr)(c m d:Nat)(w:World)(hbig2:m≤9223372036854775807):
  Calls prog 173 #[.slice aW 0 c,.slice a2 m d] w fun e bZ=>e= .returned (.int .i64 (if 0<m then-1 else 0))∧bZ=w:=by
 go_enter func173,Tryz.ntmps173
 go_wp2
 go_loopg [11] 0 (fun _ s11 wr=>s11= .int .i64 0∧wr=w)
 case atStart=>exact⟨rfl,rfl⟩
 case round=>
  obtain⟨rfl,rfl⟩:=hrel;by_cases hm:0<m
  ·have h9:(0:Int)<(m:Int):=by omega
   go_wp2
   go_ret
   first|exact⟨rfl,rfl⟩|exact⟨by rw [if_pos hm];rfl,rfl⟩|exact⟨by rw [if_pos hm],rfl⟩
  have h9: ¬(0:Int)<(m:Int):=by omega
  go_wp2
  go_ret
  first|exact⟨rfl,rfl⟩|exact⟨by rw [if_neg hm];rfl,rfl⟩|exact⟨by rw [if_neg hm],rfl⟩
set_option maxHeartbeats 2000000 in
set_option maxRecDepth 100000 in
theorem ajH(dQ jP n c d:Nat)(a2:Option Addr)(x:Int)(w:World)(dc:0<n)(hbig:n≤9223372036854775807)(hc1:w.cell? ⟨dQ,jP,none⟩=some (.int .i64 x)):
  Calls prog 173 #[.slice (some ⟨dQ,jP,none⟩) n c,.slice a2 0 d] w fun e bZ=>e= .returned (.int .i64 1)∧bZ=w:=by
 go_enter func173,Tryz.ntmps173
 go_wp2
 go_loopg [11] 0 (fun _ s11 wr=>s11= .int .i64 0∧wr=w)
 case atStart=>exact⟨rfl,rfl⟩
 case round=>
  obtain⟨rfl,rfl⟩:=hrel;have h9:(0:Int)<(n:Int):=by omega
  have g1:wr.cell? ⟨dQ,jP+0,none⟩=some (.int .i64 x):=hc1
  go_wp2
  go_ret
  exact⟨rfl,rfl⟩
theorem ajC:DC prog 173 where
 both:=ajG
 rX:=ajF
 W8:=ajH
theorem ajv(args:Array Value)(w:World):(callFunc 173 args).run prog w= .ok (.enter 173 args) w:=by kernel_rfl
end Go.Proofs
