/- Tools. -/
import Derived.Test.YtlklcemjbgpcnaaGreatOLiftLru
import Derived.ArgAppend
import Derived.Deep.MidRow
import Derived.Shelf.Slices.Cells
set_option linter.unusedVariables false
namespace Go.Proofs
open Go.RowKit Go.Lib Go.Shelf Go.Lift
def fQ(lo:Nat)(w:World)(a:Option Addr)(c:Nat)(h:List Int):Prop:=
 h.length≤c∧c≤maxLen∧((a=none∧c=0)∨ ∃b off,a=some ⟨b,off,none⟩∧lo≤b∧(∀j,j<c→(w.cell? ⟨b,off+j,none⟩).isSome=true∧w.frozen? ⟨b,off+j,none⟩=false)∧ ∀j,j<h.length→w.cell? ⟨b,off+j,none⟩=some (.int .i64 (h.getD j 0)))
theorem fQ.nil(lo:Nat)(w:World):fQ lo w none 0 []:=⟨Nat.le_refl _,Nat.zero_le _,.inl ⟨rfl,rfl⟩⟩
theorem fQ.ints{lo:Nat}{w:World}{a:Option Addr}{c:Nat}{h:List Int}(H:fQ lo w a c h):sI w h a:=by
 intro hp;obtain⟨h1,_,h|⟨b,off,rfl,_,_,h3⟩⟩:=H
 ·omega
 exact⟨b,off,rfl,h3⟩
theorem fQ.same{lo:Nat}{w w':World}{a:Option Addr}{c:Nat}{h:List Int}(H:fQ lo w a c h)(a1: ∀b,lo≤b→b<w.heap.size→w'.heap[b]? =w.heap[b]?):fQ lo w' a c h:=by
 obtain⟨h1,h2,h|⟨b,off,rfl,h3,h4,h5⟩⟩:=H
 ·exact⟨h1,h2,.inl h⟩
 refine⟨h1,h2,.inr ⟨b,off,rfl,h3,fun j hj=>?_,fun j hj=>?_⟩⟩
 ·obtain⟨u,hu⟩:=Option.isSome_iff_exists.1 (h4 j hj).1;have hk:=a1 b h3 (World.block_lt_of_cell? w _ hu);rw [World.cell?_of_block (w:=w) (a:=⟨b,off+j,none⟩) hk,World.frozen?_of_block (w:=w) (a:=⟨b,off+j,none⟩) hk];exact h4 j hj
 have hk:=a1 b h3 (World.block_lt_of_cell? w _ (h5 j hj));rw [World.cell?_of_block (w:=w) (a:=⟨b,off+j,none⟩) hk];exact h5 j hj
theorem fQ.alloc{lo:Nat}{w:World}{a:Option Addr}{c:Nat}{h:List Int}(H:fQ lo w a c h)(o:Obj):fQ lo (w.alloc o) a c h:=
 H.same fun b _ hk=>Below.heap_alloc _ _ _ hk
theorem fQ.tail{lo:Nat}{w:World}{b off c:Nat}{h:List Int}(H:fQ lo w (some ⟨b,off,none⟩) c h)(hp:0<h.length)(A:Option Addr)(mc:A=if c=1 then some ⟨b,off,none⟩ else some ⟨b,off+1,none⟩):fQ lo w A (c-1) (h.drop 1):=by
 obtain⟨h1,h2,h|⟨hr,akq,e,h3,h4,h5⟩⟩:=H
 ·cases h.1
 cases e;refine⟨by rw [List.length_drop];omega,by omega,.inr ?_⟩;by_cases bS:c=1
 ·rw [if_pos bS] at mc;exact⟨b,off,mc,h3,fun j hj=>by omega,fun j hj=>by rw [List.length_drop] at hj;omega⟩
 rw [if_neg bS] at mc;refine⟨b,off+1,mc,h3,fun j hj=>?_,fun j hj=>?_⟩
 ·have:=h4 (1+j) (by omega);rw [←Nat.add_assoc] at this;exact this
 rw [List.length_drop] at hj
 have:=h5 (1+j) (by omega);rw [←Nat.add_assoc] at this;rw [this,List.getD_eq_getElem?_getD,List.getD_eq_getElem?_getD,List.getElem?_drop]
theorem Jv{B b:Nat}(a1:B≤b): ∀(vs:List Value) (o:Nat) (w:World),Below B w (w.setCells b o vs)
 | [],_,w=>Below.refl _ _
 |v::r,o,w=>((Below.refl B w).setCell (p:=⟨b,o,none⟩) a1 v).trans (Jv a1 r (o+1) _)
theorem aib{lo:Nat}{w w':World}{b off c:Nat}{h h':List Int}{pB:List Int}(H:fQ lo w (some ⟨b,off,none⟩) c h)(cC:h'.length≤c)(ep:h'.length≤pB.length)(als:pB.length≤c)(he: ∀j,j<h'.length→pB.getD j 0=h'.getD j 0)(hw:w'=w.setCells b off (pB.map (Value.int .i64))):
  fQ lo w' (some ⟨b,off,none⟩) c h':=by
 obtain⟨h1,h2,h|⟨hr,akq,e,h3,h4,h5⟩⟩:=H
 ·cases h.1
 cases e;subst hw;refine⟨cC,h2,.inr ⟨b,off,rfl,h3,fun j hj=>⟨World.isSome_setCells _ _ _ _ _ (h4 j hj).1,?_⟩,fun j hj=>?_⟩⟩
 ·rw [World.frozen?_setCells];exact(h4 j hj).2
 rw [World.cell?_setCells_in b _ off w (fun k hk=>(h4 k (by simp at hk;omega)).1) j (by simp;omega)];rw [←he j hj,List.getElem_map,List.getD_eq_getElem?_getD,List.getElem?_eq_getElem (by omega)];rfl
theorem ah9{P:Program}{ρ:Ren}(L:Lays2.n23 P ρ){lo:Nat}{w:World}{a:Option Addr}{c:Nat}{h:List Int}(H:fQ lo w a c h)(k:Nat)(hk:k<h.length)(a1:h.length≤1000):
  Calls P (ρ.f 23) #[.slice a h.length c,.int .i64 (k:Int),.int .i64 ((k:Int)+1)] w fun e w'=>e= .returned (.slice a (h.length-1) c)∧fQ lo w' a c (h.eraseIdx k)∧Below lo w w':=by
 have UG:=H;obtain⟨h1,h2,h0|⟨b,off,rfl,h3,h4,h5⟩⟩:=H
 ·omega
 have hm:c≤9223372036854775807:=by unfold maxLen at h2;omega
 have:=Any.slices_Delete_int_cells L b off h.length c k (k+1) h w (Nat.le_refl _) h1 hm (by omega) (by omega) h5 fun j hj=>(h4 j (by omega)).2;refine this.mono ?_;rintro e w' ⟨rfl,q,rfl⟩;have dQ:Below lo w (w.drewN q):=⟨rfl,rfl,rfl,Nat.le_refl _,fun _ _=>rfl⟩
 refine⟨by rw [show k+1-k=1 by omega],?_,dQ.trans (Jv h3 _ _ _)⟩;have HD:fQ lo (w.drewN q) (some ⟨b,off,none⟩) c h:=UG.same fun _ _ _=>rfl;refine aib HD (by rw [List.length_eraseIdx,if_pos hk];omega) ?_ ?_ (fun j hj=>?_) rfl
 ·rw [List.length_eraseIdx,if_pos hk];simp;omega
 ·simp;omega
 rw [List.length_eraseIdx,if_pos hk] at hj;rw [List.getD_eq_getElem?_getD,List.getD_eq_getElem?_getD,List.getElem?_eraseIdx,List.take_length];by_cases Kc:j<k
 ·rw [if_pos Kc,List.append_assoc,List.getElem?_append_left (by simp;omega),List.getElem?_take,if_pos Kc]
 rw [if_neg Kc,List.getElem?_append_left (by simp;omega),List.getElem?_append_right (by simp;omega),List.getElem?_drop];congr 2;simp;omega
theorem aia{lo:Nat}{w w':World}{e:TypeId}{v:Value}{h:List Int}(tm:lo≤w.heap.size)(cK:0<h.length)(et:w'.ownsRow w.heap.size e 1 v h.length (h.map (Value.int .i64))):
  ∃b off c,v= .slice (some ⟨b,off,none⟩) h.length c∧fQ lo w' (some ⟨b,off,none⟩) c h:=by
 obtain⟨_,⟨rfl,h0⟩|⟨g,cap,cur,rfl,bV,hh,hle,hm,hs,fB⟩⟩:=et
 ·omega
 refine⟨g,0,cap,rfl,hle,hm,.inr ⟨g,0,rfl,by omega,fun j hj=>⟨?_,?_⟩,fun j hj=>?_⟩⟩
 ·have hj':0+j<cur.size:=by omega
  simp [World.cell?,hh,Array.getElem?_eq_getElem (show j<cur.size by omega)]
 ·simp [World.frozen?,hh]
 have:(cur.toList.take (h.length*1))[j]? =(h.map (Value.int .i64))[j]? :=by rw [fB]
 rw [List.getElem?_take,if_pos (by omega),Array.getElem?_toList,List.getElem?_map,List.getElem?_eq_getElem hj] at this;have e:h.getD j 0=h[j]:=by rw [List.getD_eq_getElem?_getD,List.getElem?_eq_getElem hj];rfl
 simp [World.cell?,hh,this,List.getElem?_eq_getElem hj]
theorem Ur{P:Program}(w:World){ops:Array Oper}{rest:List Oper}{o:Oper}{a:Act}{Q:Exit→Act→World→Prop}
  (bV:o.guard=none) (s x:Operand) (t:TypeId) (DI:o.op=Op.call {callee:=Callee.builtin Builtin.append,args:= #[s,x],argTypes:= #[t,t]})
  (e:TypeId) (i:TypeInfo) (z:Value) (h1:P.underlying t=some (.slice e)) (h2:P.info? e=some i) (h3:i.zero=some z) (h4:i.size=1) (h5:i.bytes=8) (h6:z.cells.size=1)
  {lo:Nat} (ao:Option Addr) (c:Nat) (h:List Int) (q:Int) (hs:a.eval s= .slice ao h.length c) (hh:fQ lo w ao c h) (gF:Addr) (JE:Nat) (hx:a.eval x= .slice (some gF) 1 JE) (bS:w.cell? (gF.add 0)=some (.int .i64 q)) (tm:lo≤w.heap.size) (cC:h.length≤1000)
  (kZ: ∀b off oR w',fQ lo w' (some ⟨b,off,none⟩) oR (h++[q])→Below lo w w'→wpList P ops Q rest (a.put o.dst (.slice (some ⟨b,off,none⟩) (h.length+1) oR)) w'):
  wpList P ops Q (o::rest) a w:=by
 have SF: ∀(j:Nat) (u:Value),[Value.int .i64 q][j]? =some u→w.cell? (gF.add j)=some u:=by
  intro j u hu
  match j,hu with
  |0,hu=>cases hu;exact bS
 have mS: ∀u∈[Value.int .i64 q],u.oneCell'=true:=by intro u hu;rw [List.mem_singleton] at hu;subst hu;rfl
 have vP:h.length+1≤maxLen:=by unfold maxLen;omega
 have grow: ∀dC w',w'.ownsRow w.heap.size e 1 dC (h.length+1) (h.map (Value.int .i64)++[Value.int .i64 q])→w.grownBy w' none→wpList P ops Q rest (a.put o.dst dC) w':=by
  intro dC w' et ail;have aiM:w'.ownsRow w.heap.size e 1 dC (h++[q]).length ((h++[q]).map (Value.int .i64)):=by simpa using et
  obtain⟨b,off,oR,rfl,hH⟩:=aia (lo:=lo) (w:=w) tm (by simp) aiM
  have:=kZ b off oR w' hH ((Below.refl lo w).grown ail tm fun k hk=>by cases hk);rw [show(h++[q]).length=h.length+1 by simp];exact this
 obtain⟨ct,cS,⟨rfl,rfl⟩|⟨b,off,rfl,ez,wc,DQ⟩⟩:=hh
 ·have h0:h=[]:=List.eq_nil_of_length_eq_zero (by omega);subst h0;exact wpList_append_grows w bV s x t DI e i z 1 8 h1 h2 h3 h4 h5 h6 (by omega) none 0 0 [] hs (fun _=>⟨rfl,rfl⟩) rfl (fun b a1=>by cases a1) gF 1 JE [.int .i64 q] hx rfl SF mS (by omega) vP (by omega) grow
 refine wpList_append_arg w bV s x t DI e i z 1 8 h1 h2 h3 h4 h5 h6 (by omega) b off h.length c (h.map (Value.int .i64)) hs (by simp) (fun j u hu=>?_) gF 1 JE [.int .i64 q] hx rfl SF mS (fun b8 j hj=>?_) vP (by omega) (fun b8=>?_) fun b8=>grow
 ·rw [List.getElem?_map] at hu;cases hg2:h[j]? with
  |none=>rw [hg2] at hu;cases hu
  |some y=>
   rw [hg2] at hu;cases hu;have hj:j<h.length:=(List.getElem?_eq_some_iff.1 hg2).1;rw [DQ j hj,List.getD_eq_getElem?_getD,hg2];rfl
 ·have hj0:j=0:=by simpa using hj
  subst hj0
  have:=wc h.length (by omega);rw [Nat.mul_one,Nat.add_zero];exact this
 refine kZ b off c _ ?_ (Jv ez _ _ _);rw [Nat.mul_one];refine⟨by simpa using b8,cS,.inr ⟨b,off,rfl,ez,fun j hj=>⟨World.isSome_setCells _ _ _ _ _ (wc j hj).1,by rw [World.frozen?_setCells];exact(wc j hj).2⟩,fun j hj=>?_⟩⟩;by_cases DF:j<h.length
 ·rw [World.cell?_setCells_out b _ _ w _ (fun _ _=> .inl (by show off+j<off+h.length;omega)),DQ j DF,List.getD_eq_getElem?_getD,List.getD_eq_getElem?_getD,List.getElem?_append_left DF]
 have aiv:j=h.length:=by simp at hj;omega
 subst aiv
 have:=World.cell?_setCells_in b [Value.int .i64 q] (off+h.length) w (fun k hk=>by simp at hk;subst hk;exact(wc h.length (by omega)).1) 0 (by simp);rw [Nat.add_zero] at this;rw [this];simp
end Go.Proofs
