/- Tools. -/
import Derived.Test.YteifkndfpnkalacGreatChecked
import Derived.Test.YteifkndfpnkalacGreatQLruP
import Derived.Shelf.RegionOpenPlain
import Derived.Deep.LoopGhost
import Derived.Deep.Draws
import Derived.Lib.Walk
import Derived.Lib.Slices
import Derived.Lib.SlicesMore
set_option linter.unusedVariables false
namespace Go.Proofs
open Go.RowKit Go.Lib Go.Shelf Go.Lift Go.Proofs.Tryz
theorem agn{h:List Int}{x:Int}{k:Nat}(hk:k<h.length)(hne: ∀j,j<k→h.getD j 0≠x)(hx:h.getD k 0=x):(if x∈h then(h.idxOf x:Int) else-1)=(k:Int):=by
 have e: ∀j (hj:j<h.length),h.getD j 0=h[j]:=fun j hj=>by rw [List.getD_eq_getElem?_getD,List.getElem?_eq_getElem hj];rfl
 have hm:x∈h:=by rw [←hx,e k hk];exact List.getElem_mem hk
 rw [if_pos hm];have h1:h.idxOf x<h.length:=List.idxOf_lt_length_of_mem hm;have h2:h[h.idxOf x]=x:=List.getElem_idxOf h1;have h3: ¬h.idxOf x<k:=fun cC=>hne _ cC (by rw [e _ h1];exact h2);have h4: ¬k<h.idxOf x:=fun cC=>by
  have:=List.not_of_lt_findIdx (p:=(· ==x)) (xs:=h) cC;rw [e k hk] at hx;simp [hx] at this
 omega
theorem ago{h:List Int}{x:Int}(hne: ∀j,j<h.length→h.getD j 0≠x):(if x∈h then(h.idxOf x:Int) else-1)= -1:=by rw [if_neg fun hm=>?_];obtain⟨j,hj,e⟩:=List.getElem_of_mem hm;exact hne j hj (by rw [List.getD_eq_getElem?_getD,List.getElem?_eq_getElem hj];exact e)
set_option maxHeartbeats 2000000 in
set_option maxRecDepth 100000 in
theorem agp(h:List Int)(x:Int)(a:Option Addr)(c:Nat)(w:World)(bN:rQ w h a)(a7:h.length≤1000):
  Calls prog 86 #[.slice a h.length c,.int .i64 x] w fun e w'=>e= .returned (.int .i64 (if x∈h then(h.idxOf x:Int) else-1))∧w'=w:=by
 obtain⟨n,cG⟩: ∃n,n=h.length:=⟨_,rfl⟩
 obtain⟨r,b3⟩: ∃r,r=(if x∈h then(h.idxOf x:Int) else-1):=⟨_,rfl⟩
 rw [←b3,←cG];have hb':n≤1000:=by omega
 have N0:Hid (n=h.length):=cG;have C0:Hid (rQ w h a):=bN;have F0:Hid (∀k,k<h.length→(∀j,j<k→h.getD j 0≠x)→h.getD k 0=x→r=(k:Int)):=fun k h1 h2 h3=>b3.trans (agn h1 h2 h3);have F1:Hid ((∀j,j<h.length→h.getD j 0≠x)→r= -1):=fun h1=>b3.trans (ago h1);clear cG bN b3 a7
 go_enter func86,Tryz.ntmps86
 go_wp2
 go_loopg [8] n (fun g s wr=> ∃k:Nat,k≤n∧n-k≤g∧s= .int .i64 k∧wr=w∧ ∀j,j<k→h.getD j 0≠x)
 case atStart=>exact⟨0,Nat.zero_le _,by omega,rfl,rfl,fun j hj=>absurd hj (Nat.not_lt_zero _)⟩
 case round=>
  obtain⟨k,hk,bG,rfl,rfl,hne⟩:=hrel;have A:Hid (∀j,j<k→h.getD j 0≠x):=hne;clear hne;by_cases hlt:k<n
  ·obtain⟨b,o,rfl,hcell⟩:=C0.out (by have:=N0.out;omega);have g1:wr.cell? ⟨b,o+k,none⟩=some (.int .i64 (h.getD k 0)):=hcell k (by have:=N0.out;omega);clear hcell C0;generalize hy:h.getD k 0=y at g1;have B:Hid (h.getD k 0=y):=hy;clear hy;by_cases hxy:x=y
   ·subst hxy
    go_wp2
    go_ret
    exact⟨by rw [F0.out k (by have:=N0.out;omega) A.out B.out];rfl,rfl⟩
   go_wp2
   go_roundg (n-(k+1))
   case measure=>omega
   case rel=>
    refine⟨k+1,by omega,by omega,by go_num,rfl,fun j hj=>?_⟩;by_cases e:j=k
    ·subst e;rw [B.out];exact fun e=>hxy e.symm
    exact A.out j (by omega)
  have hkn:k=n:=by omega
  subst hkn
  go_wp2
  go_ret
  exact⟨by rw [F1.out (by rw [←N0.out];exact A.out)];rfl,rfl⟩
theorem ae3{P:Program}{ρ:Ren}(L:Lays2.n23 P ρ){lo:Nat}{w:World}{a:Option Addr}{c:Nat}{h:List Int}(H:fO lo w a c h)(k:Nat)(hk:k<h.length)(a7:h.length≤1000):
  Calls P (ρ.f 23) #[.slice a h.length c,.int .i64 (k:Int),.int .i64 ((k:Int)+1)] w fun e w'=> ∃h':List Int,Hid (h'=h.eraseIdx k)∧e= .returned (.slice a h'.length c)∧fO lo w' a c h'∧Below lo w w':=by refine(ae2 L H k hk a7).mono ?_;rintro e w' ⟨rfl,h2,h3⟩;exact⟨_,rfl,by rw [List.length_eraseIdx,if_pos hk],h2,h3⟩
theorem aew{q:Int}{h:List Int}{k:Nat}(hm:q∈h)(hk:h.idxOf q=k):h.eraseIdx k=h.erase q:=by rw [List.erase_eq_eraseIdx_of_idxOf (i:=k) hk]
theorem ahJ{sz:Nat}{h l:List Int}{k m:Nat}{q:Int}(hk:k<l.length)(hq:l.getD k 0=q)(h1:m+fH sz h (l.drop k)=fH sz [] l):
  m+(if q∈h then 0 else 1)+fH sz (mF sz q h) (l.drop (k+1))=fH sz [] l:=by
 rw [List.drop_eq_getElem_cons hk,fH] at h1;have e:l[k]=q:=by rw [←hq,List.getD_eq_getElem?_getD,List.getElem?_eq_getElem hk];rfl
 rw [e] at h1;omega
theorem Cl{sz:Nat}{q:Int}{hh h1:List Int}(hE:h1=hh.erase q)(hgt:sz<h1.length+1):mF sz q hh=(h1++[q]).drop 1:=by unfold mF;dsimp only;rw [←hE,if_pos (by simpa using hgt)]
theorem Q8{sz:Nat}{q:Int}{hh h1:List Int}(hE:h1=hh.erase q)(hle: ¬sz<h1.length+1):mF sz q hh=h1++[q]:=by unfold mF;dsimp only;rw [←hE,if_neg (by simpa using hle)]
theorem agq:(prog.info? 3).map (fun i=>(i.zero,i.size,i.bytes))=some (some (.int .i64 0),1,8):=by kernel_rfl
set_option maxHeartbeats 4000000 in
set_option maxRecDepth 100000 in
theorem ahf(hdel: ∀{lo:Nat} {w:World} {a:Option Addr} {c:Nat} {h:List Int} (H:fO lo w a c h) (k:Nat) (hk:k<h.length) (a7:h.length≤1000),Calls prog 87 #[.slice a h.length c,.int .i64 (k:Int),.int .i64 ((k:Int)+1)] w fun e w'=> ∃h':List Int,Hid (h'=h.eraseIdx k)∧e= .returned (.slice a h'.length c)∧fO lo w' a c h'∧Below lo w w')(l:List Int)(sz:Nat)(a:Option Addr)(c:Nat)(w:World)(bN:rQ w l a)(cC:l.length≤600)(hs:sz≤40):
  Calls prog 34 #[.slice a l.length c,.int .i64 (sz:Int)] w fun e w'=>e= .returned (.int .i64 (fH sz [] l:Int))∧Below w.heap.size w w':=by
 obtain⟨i0,aP,hz0,hz1,hz2⟩:=info_parts agq;obtain⟨n,cG⟩: ∃n,n=l.length:=⟨_,rfl⟩
 obtain⟨R,hR⟩: ∃R,R=fH sz [] l:=⟨_,rfl⟩
 rw [←cG,←hR];have hl':n≤600:=by omega
 have N0:Hid (n=l.length):=cG;have C0:Hid (rQ w l a):=bN;have R0:Hid (R=fH sz [] l):=hR;clear cG bN hR cC
 go_enter func34,Tryz.ntmps34
 have hs':(sz:Int)≤40:=by omega
 go_wp2_with go_in
 go_loopg [16,5,6] n (fun g s16 s5 s6 wr=> ∃(k m:Nat) (hh:List Int) (ao:Option Addr) (cp:Nat),k≤n∧n-k≤g∧s16= .int .i64 k∧s5= .int .i64 m∧s6= .slice ao hh.length cp∧fO w.heap.size wr ao cp hh∧Below w.heap.size w wr∧hh.length≤sz∧m≤k∧m+fH sz hh (l.drop k)=R)
 case atStart=>exact⟨0,0,[],none,0,Nat.zero_le _,by omega,rfl,rfl,rfl,fO.nil _ _,Below.refl _ _,Nat.zero_le _,Nat.le_refl _,by rw [R0.out,List.drop_zero,Nat.zero_add]⟩
 case round=>
  obtain⟨k,m,hh,ao,cp,hk,bG,rfl,rfl,rfl,hH,dV,hlen,hmk,hsum⟩:=hrel;have S0:Hid (m+fH sz hh (l.drop k)=R):=hsum;clear hsum;by_cases hlt:k<n
  ·obtain⟨b,o,rfl,hcell⟩:=C0.out (by have:=N0.out;omega);have g0:=hcell k (by have:=N0.out;omega);have g1:wr.cell? ⟨b,o+k,none⟩=some (.int .i64 (l.getD k 0)):=(dV.cell (by exact World.block_lt_of_cell? w _ g0)).trans g0;clear hcell C0 g0;generalize hy:l.getD k 0=q at g1;have Q0:Hid (l.getD k 0=q):=hy;clear hy;have T0:Hid (m+(if q∈hh then 0 else 1)+fH sz (mF sz q hh) (l.drop (k+1))=R):=by
    show _=_;rw [R0.out];exact ahJ (by have:=N0.out;omega) Q0.out (by rw [←R0.out];exact S0.out)
   have I0:=agp hh q ao cp wr hH.ints (by omega);by_cases hm:q∈hh
   ·rw [if_pos hm] at I0;obtain⟨j,hj⟩: ∃j,j=hh.idxOf q:=⟨_,rfl⟩
    have hjl:j<hh.length:=by rw [hj];exact List.idxOf_lt_length_of_mem hm
    rw [←hj] at I0;have E0:Hid (hh.eraseIdx j=hh.erase q):=aew hm hj.symm;have T1:Hid (m+fH sz (mF sz q hh) (l.drop (k+1))=R):=by have:=T0.out;rw [if_pos hm] at this;exact this
    clear hj hm S0 T0
    go_wp2_with (first|(go_at_call 86;refine I0.mono ?_;rintro e ir ⟨rfl,rfl⟩)|(go_at_call 87;refine(hdel hH j hjl (by omega)).mono ?_;rintro e ir ⟨h1,hE,rfl,hH1,hB1⟩)|(at_builtin;refine R5 _ rfl _ _ 46 rfl 3 i0 (.int .i64 0) underlying46 aP hz0 hz1 hz2 rfl _ _ _ q rfl (hH1.alloc _) ⟨ir.heap.size,0,none⟩ 1 rfl (by simp [Addr.add]) (by have:=dV.size;have:=hB1.size;simp;omega) (by have:=congrArg List.length hE.out;rw [List.length_eraseIdx,if_pos hjl] at this;omega) ?_;intro cI hn c2 w2 hH2 hB2)|go_in)
    ·have hgt:(sz:Int)<(h1.length:Int)+1:=by assumption
     have hc2:c2=1:=by assumption
     have fC:=Cl (hE.out.trans E0.out) (by omega:sz<h1.length+1);have hl1:h1.length≤sz:=by have:=congrArg List.length hE.out;rw [List.length_eraseIdx,if_pos hjl] at this;omega
     have T2:m+fH sz ((h1++[q]).drop 1) (l.drop (k+1))=R:=by rw [←fC];exact T1.out
     go_roundg (n-(k+1))
     case measure=>omega
     case rel=>exact⟨k+1,m,(h1++[q]).drop 1,some ⟨cI,hn,none⟩,0,by omega,by omega,by go_num,rfl,by rw [show((h1++[q]).drop 1).length=h1.length by simp],by have:=hH2.tail (by simp) _ rfl;rw [hc2] at this;exact this,(dV.trans hB1).trans (((Below.refl _ _).alloc (by have:=dV.size;have:=hB1.size;omega) _).trans hB2),by simp;omega,by omega,T2⟩
    ·have hgt:(sz:Int)<(h1.length:Int)+1:=by assumption
     have hc2: ¬c2=1:=by assumption
     have fC:=Cl (hE.out.trans E0.out) (by omega:sz<h1.length+1);have hl1:h1.length≤sz:=by have:=congrArg List.length hE.out;rw [List.length_eraseIdx,if_pos hjl] at this;omega
     have T2:m+fH sz ((h1++[q]).drop 1) (l.drop (k+1))=R:=by rw [←fC];exact T1.out
     go_roundg (n-(k+1))
     case measure=>omega
     case rel=>exact⟨k+1,m,(h1++[q]).drop 1,some ⟨cI,hn+1,none⟩,c2-1,by omega,by omega,by go_num,rfl,by rw [show((h1++[q]).drop 1).length=h1.length by simp],by have:=hH2.tail (by simp) _ rfl;rw [if_neg hc2] at this;exact this,(dV.trans hB1).trans (((Below.refl _ _).alloc (by have:=dV.size;have:=hB1.size;omega) _).trans hB2),by simp;omega,by omega,T2⟩
    have hle:(h1.length:Int)+1≤(sz:Int):=by assumption
    have fC:=Q8 (hE.out.trans E0.out) (by omega: ¬sz<h1.length+1);have T2:m+fH sz (h1++[q]) (l.drop (k+1))=R:=by rw [←fC];exact T1.out
    go_roundg (n-(k+1))
    case measure=>omega
    case rel=>exact⟨k+1,m,h1++[q],some ⟨cI,hn,none⟩,c2,by omega,by omega,by go_num,rfl,by rw [show(h1++[q]).length=h1.length+1 by simp],hH2,(dV.trans hB1).trans (((Below.refl _ _).alloc (by have:=dV.size;have:=hB1.size;omega) _).trans hB2),by simp;omega,by omega,T2⟩
   rw [if_neg hm] at I0;have E0:Hid (hh=hh.erase q):=(List.erase_of_not_mem hm).symm;have T1:Hid (m+1+fH sz (mF sz q hh) (l.drop (k+1))=R):=by have:=T0.out;rw [if_neg hm] at this;exact this
   clear hm S0 T0
   go_wp2_with (first|(go_at_call 86;refine I0.mono ?_;rintro e ir ⟨rfl,rfl⟩)|(at_builtin;refine R5 _ rfl _ _ 46 rfl 3 i0 (.int .i64 0) underlying46 aP hz0 hz1 hz2 rfl _ _ _ q rfl (hH.alloc _) ⟨ir.heap.size,0,none⟩ 1 rfl (by simp [Addr.add]) (by have:=dV.size;simp;omega) (by omega) ?_;intro cI hn c2 w2 hH2 hB2)|go_in)
   ·have hgt:(sz:Int)<(hh.length:Int)+1:=by assumption
    have hc2:c2=1:=by assumption
    have fC:=Cl E0.out (by omega:sz<hh.length+1);have T2:m+1+fH sz ((hh++[q]).drop 1) (l.drop (k+1))=R:=by rw [←fC];exact T1.out
    go_roundg (n-(k+1))
    case measure=>omega
    case rel=>exact⟨k+1,m+1,(hh++[q]).drop 1,some ⟨cI,hn,none⟩,0,by omega,by omega,by go_num,by go_num,by rw [show((hh++[q]).drop 1).length=hh.length by simp],by have:=hH2.tail (by simp) _ rfl;rw [hc2] at this;exact this,dV.trans (((Below.refl _ _).alloc (by have:=dV.size;omega) _).trans hB2),by simp;omega,by omega,T2⟩
   ·have hgt:(sz:Int)<(hh.length:Int)+1:=by assumption
    have hc2: ¬c2=1:=by assumption
    have fC:=Cl E0.out (by omega:sz<hh.length+1);have T2:m+1+fH sz ((hh++[q]).drop 1) (l.drop (k+1))=R:=by rw [←fC];exact T1.out
    go_roundg (n-(k+1))
    case measure=>omega
    case rel=>exact⟨k+1,m+1,(hh++[q]).drop 1,some ⟨cI,hn+1,none⟩,c2-1,by omega,by omega,by go_num,by go_num,by rw [show((hh++[q]).drop 1).length=hh.length by simp],by have:=hH2.tail (by simp) _ rfl;rw [if_neg hc2] at this;exact this,dV.trans (((Below.refl _ _).alloc (by have:=dV.size;omega) _).trans hB2),by simp;omega,by omega,T2⟩
   have hle:(hh.length:Int)+1≤(sz:Int):=by assumption
   have fC:=Q8 E0.out (by omega: ¬sz<hh.length+1);have T2:m+1+fH sz (hh++[q]) (l.drop (k+1))=R:=by rw [←fC];exact T1.out
   go_roundg (n-(k+1))
   case measure=>omega
   case rel=>exact⟨k+1,m+1,hh++[q],some ⟨cI,hn,none⟩,c2,by omega,by omega,by go_num,by go_num,by rw [show(hh++[q]).length=hh.length+1 by simp],hH2,dV.trans (((Below.refl _ _).alloc (by have:=dV.size;omega) _).trans hB2),by simp;omega,by omega,T2⟩
  have hkn:k=n:=by omega
  subst hkn;have E0:Hid (m=R):=by
   show _=_
   have:=S0.out;rw [List.drop_eq_nil_of_le (by rw [←N0.out];exact Nat.le_refl _)] at this;simpa [fH] using this
  go_wp2
  go_ret
  exact⟨by rw [E0.out];rfl,dV⟩
theorem zH{w w':World}(h:Below w.heap.size w w'):Ext (fun _=>False) w w':=⟨h.os,h.tape,h.output,h.size,fun b a7 _=>h.block b a7⟩
set_option maxHeartbeats 2000000 in
set_option maxRecDepth 100000 in
theorem ahd(n:Nat)(size:Int)(a:Option Addr)(c:Nat)(w:World)(h:600<n∨size<0∨40<size):
  Calls prog 34 #[.slice a n c,.int .i64 size] w fun e w'=>e= .returned (.int .i64 (-1))∧w'=w:=by
 rcases h with h|h|h
 ·have h1: ¬(n:Int)≤600:=by omega
  go_enter func34,Tryz.ntmps34
  go_wp2_with go_in
  all_goals (go_ret;exact⟨rfl,rfl⟩)
 ·have h1: ¬(0:Int)≤size:=by omega
  go_enter func34,Tryz.ntmps34
  go_wp2_with go_in
  all_goals (go_ret;exact⟨rfl,rfl⟩)
 have h1: ¬size≤40:=by omega
 go_enter func34,Tryz.ntmps34
 go_wp2_with go_in
 all_goals (go_ret;exact⟨rfl,rfl⟩)
theorem ahe(hdel: ∀{lo:Nat} {w:World} {a:Option Addr} {c:Nat} {h:List Int} (H:fO lo w a c h) (k:Nat) (hk:k<h.length) (a7:h.length≤1000),Calls prog 87 #[.slice a h.length c,.int .i64 (k:Int),.int .i64 ((k:Int)+1)] w fun e w'=> ∃h':List Int,Hid (h'=h.eraseIdx k)∧e= .returned (.slice a h'.length c)∧fO lo w' a c h'∧Below lo w w'):Pd prog 34:=by
 intro l size a c w bN;by_cases h:l.length≤600∧0≤size∧size≤40
 ·obtain⟨cC,h0,h40⟩:=h;obtain⟨sz,rfl⟩:=Int.eq_ofNat_of_zero_le h0;refine(ahf hdel l sz a c w bN cC (by omega)).mono ?_;rintro e w' ⟨rfl,dV⟩;refine⟨?_,zH dV⟩;rw [if_pos ⟨cC,h0,h40⟩];rfl
 refine(ahd l.length size a c w (by omega)).mono ?_;rintro e w' ⟨rfl,rfl⟩;rw [if_neg h];exact⟨rfl,Ext.refl _ _⟩
end Go.Proofs
