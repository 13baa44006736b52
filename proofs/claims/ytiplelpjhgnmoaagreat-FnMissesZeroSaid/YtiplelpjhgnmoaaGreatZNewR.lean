/- impl.DistinctCells, run by run: how many keys the map has. -/
import Derived.Test.YtiplelpjhgnmoaaGreatChecked
import Derived.Test.YtiplelpjhgnmoaaGreatZLiftLru
import Derived.Maps.OwnSet
import Derived.Shelf.RegionOpenPlain
import Derived.WalkKit
import Derived.Deep.LoopGhost
import Derived.Deep.Draws
import Derived.Lib.Walk
set_option linter.unusedVariables false
namespace Go.Proofs
open Go.RowKit Go.Lib Go.Lift Go.Maps Go.WideMaps
def keysN(l:List Int):List Lit:=l.map (fun x=>Lit.int .i64 x)
def setN(l:List Int):DataW Unit:=setOf (.lit (.bool true)) (keysN l)
theorem setN_succ{l:List Int}{k:Nat}(hk:k<l.length):setN (l.take (k+1))=(setN (l.take k)).put (.int .i64 (l.getD k 0)) (.lit (.bool true)):=by
 unfold setN keysN
 rw [List.take_add_one,List.map_append,List.getElem?_eq_getElem hk,List.getD_eq_getElem?_getD,List.getElem?_eq_getElem hk]
 exact setOf_snoc _ _ _
theorem lit_ne{x y:Int}(h:x≠y):Lit.int .i64 x≠Lit.int .i64 y:=fun e=>h (by cases e;rfl)
theorem keyN(x:Int):WideAt.IsKeyLit (Lit.int .i64 x):=by unfold WideAt.IsKeyLit;trivial
theorem size_new: ∀(l seen:List Int) (m:DataW Unit),Tidy m→(∀x,has m (.int .i64 x)=decide (x∈seen))→size ((keysN l).foldl (fun m x=>m.put x (.lit (.bool true))) m)=size m+newCells seen l
 | [],_,_,_,_=>rfl
 |x::l,seen,m,ht,hh=>by
  show size ((keysN l).foldl _ (m.put (.int .i64 x) (.lit (.bool true))))=_
  rw [size_new l (x::seen) (m.put (.int .i64 x) (.lit (.bool true))) (ht.put (keyN x) _) (fun y=> ?_),size_put ht,hh x,newCells]
  ·by_cases h:x∈seen
   ·simp [h]
   ·simp [h];omega
  ·by_cases e:y=x
   ·subst e
    rw [has_put_same ht.isMap (keyN y)]
    simp
   ·rw [has_put_other (lit_ne e),hh y]
    simp [e]
theorem size_setN(l:List Int):size (setN l)=newCells [] l:=by
 unfold setN setOf
 rw [size_new l [] _ tidy_empty (fun x=>rfl)]
 exact Nat.zero_add _
theorem lawN:Keyed Tryz.prog 3:=int_keyed Tryz.underlying3
set_option maxHeartbeats 2000000 in
set_option maxRecDepth 100000 in
theorem new_way(l:List Int)(a:Option Addr)(c:Nat)(w:World)(hc:mE w l a)(hw: ∀x∈l,-9223372036854775808≤x∧x≤9223372036854775807)(hl:l.length≤600):
  Calls Tryz.prog 25 #[.slice a l.length c] w fun e w'=>e= .returned (.int .i64 (newCells [] l:Int))∧Below w.heap.size w w':=by
 obtain⟨n,hn⟩: ∃n,n=l.length:=⟨_,rfl⟩
 rw [←hn,←size_setN]
 have hl':n≤600:=by omega
 have N0:Hid (n=l.length):=hn
 have C0:Hid (mE w l a):=hc
 have W0:Hid (∀x∈l,-9223372036854775808≤x∧x≤9223372036854775807):=hw
 clear hn hc hw hl
 have hmm:= @run_makeMap Tryz.prog
 have hl2:(n:Int)≤600:=by omega
 go_enter Tryz.func25,Tryz.ntmps25
 go_wp2_with go_in
 go_loopg [12] n (fun g i wr=> ∃k:Nat,k≤n∧n-k≤g∧i= .int .i64 k∧wr.ownsMap Tryz.prog 3 (plainElem Tryz.prog 4) w.heap.size k (setN (l.take k))∧Below w.heap.size w wr)
 case atStart=>exact⟨0,Nat.zero_le _,by omega,rfl,World.ownsMap_made _ _ _ _,(Below.refl _ _).alloc (Nat.le_refl _) _⟩
 case round=>
  obtain⟨k,hk,hg,rfl,hown,hnx⟩:=hrel
  by_cases hlt:k<n
  ·obtain⟨b,o,rfl,hcell⟩:=C0.out (by have:=N0.out;omega)
   have g0:=hcell k (by have:=N0.out;omega)
   have g1:wr.cell? ⟨b,o+k,none⟩=some (.int .i64 (l.getD k 0)):=(hnx.cell (by exact World.block_lt_of_cell? w _ g0)).trans g0
   have hs:=setN_succ (l:=l) (k:=k) (by have:=N0.out;omega)
   have hwf:(Lit.int .i64 (l.getD k 0)).wf=true:=by
    have hk':k<l.length:=by have:=N0.out;omega
    have:=W0.out (l.getD k 0) (by rw [List.getD_eq_getElem?_getD,List.getElem?_eq_getElem hk'];exact List.getElem_mem hk')
    exact WalkArith.wf_i64 this
   clear hcell C0 g0
   generalize hy:l.getD k 0=q at g1 hs hwf
   have S0:Hid (setN (l.take (k+1))=(setN (l.take k)).put (.int .i64 q) (.lit (.bool true))):=hs
   clear hy hs
   have hkey:keyOf Tryz.prog 3 (.int .i64 q)=some (.int .i64 q):=keyOf_int_mk Tryz.underlying3 hwf
   go_wp2_with (first|(at_mapUpdate;refine wpList_mapUpdate_own _ rfl _ _ _ 116 rfl 3 4 lawN Tryz.underlying116 (plainElem (H:=Unit) Tryz.prog 4) w.heap.size k _ rfl hown (by unfold maxLen;omega) _ _ _ rfl rfl hkey _ [] (plainElem_bool Tryz.underlying4 true) ?_;intro w1 hown1 hgrow1)|go_in)
   go_roundg (n-(k+1))
   case measure=>omega
   case rel=>exact⟨k+1,by omega,by omega,by go_num,by rw [S0.out];exact hown1,hnx.grown hgrow1 hnx.size (fun j hj=>by cases hj;exact Nat.le_refl _)⟩
  ·have hkn:k=n:=by omega
   subst hkn
   have S1:Hid (l.take k=l):=by show _=_;rw [N0.out];exact List.take_length
   go_wp2_with (first|(at_len;refine wpList_len_own _ rfl _ 116 rfl 3 4 Tryz.underlying116 _ w.heap.size k _ rfl hown ?_)|go_in)
   go_ret
   exact⟨by rw [S1.out];rfl,hnx⟩
set_option maxHeartbeats 2000000 in
set_option maxRecDepth 100000 in
theorem new_no(n:Nat)(a:Option Addr)(c:Nat)(w:World)(h:600<n):
  Calls Tryz.prog 25 #[.slice a n c] w fun e w'=>e= .returned (.int .i64 0)∧w'=w:=by
 have h1: ¬(n:Int)≤600:=by omega
 go_enter Tryz.func25,Tryz.ntmps25
 go_wp2_with go_in
 all_goals (go_ret;exact⟨rfl,rfl⟩)
theorem new_run:aDL Tryz.prog 25:=by
 intro l a c w hc hw
 by_cases h:l.length≤600
 ·refine(new_way l a c w hc hw h).mono ?_
  rintro e w' ⟨rfl,hB⟩
  rw [if_pos h]
  exact⟨rfl,⟨hB.os,hB.tape,hB.output,hB.size,fun b hb _=>hB.block b hb⟩⟩
 ·refine(new_no l.length a c w (by omega)).mono ?_
  rintro e w' ⟨rfl,rfl⟩
  rw [if_neg h]
  exact⟨rfl,Ext.refl _ _⟩
end Go.Proofs
