/- Tools. -/
import Derived.Test.YteifkndfpnkalacGreatQLiftLru
import Derived.ArgAppend
import Derived.Deep.MidRow
import Derived.Shelf.Slices.Cells
set_option linter.unusedVariables false
namespace Go.Proofs
open Go.RowKit Go.Lib Go.Shelf Go.Lift
def fO(lo:Nat)(w:World)(a:Option Addr)(c:Nat)(h:List Int):Prop:=
 h.length≤c∧c≤maxLen∧((a=none∧c=0)∨ ∃b off,a=some ⟨b,off,none⟩∧lo≤b∧(∀j,j<c→(w.cell? ⟨b,off+j,none⟩).isSome=true∧w.frozen? ⟨b,off+j,none⟩=false)∧ ∀j,j<h.length→w.cell? ⟨b,off+j,none⟩=some (.int .i64 (h.getD j 0)))
theorem fO.nil(lo:Nat)(w:World):fO lo w none 0 []:=⟨Nat.le_refl _,Nat.zero_le _,.inl ⟨rfl,rfl⟩⟩
theorem fO.ints{lo:Nat}{w:World}{a:Option Addr}{c:Nat}{h:List Int}(H:fO lo w a c h):rQ w h a:=by
 intro hp;obtain⟨h1,_,h|⟨b,off,rfl,_,_,h3⟩⟩:=H
 ·omega
 exact⟨b,off,rfl,h3⟩
theorem fO.same{lo:Nat}{w w':World}{a:Option Addr}{c:Nat}{h:List Int}(H:fO lo w a c h)(a7: ∀b,lo≤b→b<w.heap.size→w'.heap[b]? =w.heap[b]?):fO lo w' a c h:=by
 obtain⟨h1,h2,h|⟨b,off,rfl,h3,h4,h5⟩⟩:=H
 ·exact⟨h1,h2,.inl h⟩
 refine⟨h1,h2,.inr ⟨b,off,rfl,h3,fun j hj=>?_,fun j hj=>?_⟩⟩
 ·obtain⟨u,hu⟩:=Option.isSome_iff_exists.1 (h4 j hj).1;have hk:=a7 b h3 (World.block_lt_of_cell? w _ hu);rw [World.cell?_of_block (w:=w) (a:=⟨b,off+j,none⟩) hk,World.frozen?_of_block (w:=w) (a:=⟨b,off+j,none⟩) hk];exact h4 j hj
 have hk:=a7 b h3 (World.block_lt_of_cell? w _ (h5 j hj));rw [World.cell?_of_block (w:=w) (a:=⟨b,off+j,none⟩) hk];exact h5 j hj
theorem fO.alloc{lo:Nat}{w:World}{a:Option Addr}{c:Nat}{h:List Int}(H:fO lo w a c h)(o:Obj):fO lo (w.alloc o) a c h:=
 H.same fun b _ hk=>Below.heap_alloc _ _ _ hk
theorem fO.tail{lo:Nat}{w:World}{b off c:Nat}{h:List Int}(H:fO lo w (some ⟨b,off,none⟩) c h)(hp:0<h.length)(A:Option Addr)(lR:A=if c=1 then some ⟨b,off,none⟩ else some ⟨b,off+1,none⟩):fO lo w A (c-1) (h.drop 1):=by
 obtain⟨h1,h2,h|⟨hF,ahi,e,h3,h4,h5⟩⟩:=H
 ·cases h.1
 cases e;refine⟨by rw [List.length_drop];omega,by omega,.inr ?_⟩;by_cases bN:c=1
 ·rw [if_pos bN] at lR;exact⟨b,off,lR,h3,fun j hj=>by omega,fun j hj=>by rw [List.length_drop] at hj;omega⟩
 rw [if_neg bN] at lR;refine⟨b,off+1,lR,h3,fun j hj=>?_,fun j hj=>?_⟩
 ·have:=h4 (1+j) (by omega);rw [←Nat.add_assoc] at this;exact this
 rw [List.length_drop] at hj
 have:=h5 (1+j) (by omega);rw [←Nat.add_assoc] at this;rw [this,List.getD_eq_getElem?_getD,List.getD_eq_getElem?_getD,List.getElem?_drop]
theorem Ha{B b:Nat}(a7:B≤b): ∀(vs:List Value) (o:Nat) (w:World),Below B w (w.setCells b o vs)
 | [],_,w=>Below.refl _ _
 |v::r,o,w=>((Below.refl B w).setCell (p:=⟨b,o,none⟩) a7 v).trans (Ha a7 r (o+1) _)
theorem ae5{lo:Nat}{w w':World}{b off c:Nat}{h h':List Int}{o0:List Int}(H:fO lo w (some ⟨b,off,none⟩) c h)(cC:h'.length≤c)(e4:h'.length≤o0.length)(aiH:o0.length≤c)(he: ∀j,j<h'.length→o0.getD j 0=h'.getD j 0)(hw:w'=w.setCells b off (o0.map (Value.int .i64))):
  fO lo w' (some ⟨b,off,none⟩) c h':=by
 obtain⟨h1,h2,h|⟨hF,ahi,e,h3,h4,h5⟩⟩:=H
 ·cases h.1
 cases e;subst hw;refine⟨cC,h2,.inr ⟨b,off,rfl,h3,fun j hj=>⟨World.isSome_setCells _ _ _ _ _ (h4 j hj).1,?_⟩,fun j hj=>?_⟩⟩
 ·rw [World.frozen?_setCells];exact(h4 j hj).2
 rw [World.cell?_setCells_in b _ off w (fun k hk=>(h4 k (by simp at hk;omega)).1) j (by simp;omega)];rw [←he j hj,List.getElem_map,List.getD_eq_getElem?_getD,List.getElem?_eq_getElem (by omega)];rfl
theorem ae2{P:Program}{ρ:Ren}(L:Lays2.n23 P ρ){lo:Nat}{w:World}{a:Option Addr}{c:Nat}{h:List Int}(H:fO lo w a c h)(k:Nat)(hk:k<h.length)(a7:h.length≤1000):
  Calls P (ρ.f 23) #[.slice a h.length c,.int .i64 (k:Int),.int .i64 ((k:Int)+1)] w fun e w'=>e= .returned (.slice a (h.length-1) c)∧fO lo w' a c (h.eraseIdx k)∧Below lo w w':=by
 have Si:=H;obtain⟨h1,h2,h0|⟨b,off,rfl,h3,h4,h5⟩⟩:=H
 ·omega
 have hm:c≤9223372036854775807:=by unfold maxLen at h2;omega
 have:=Any.slices_Delete_int_cells L b off h.length c k (k+1) h w (Nat.le_refl _) h1 hm (by omega) (by omega) h5 fun j hj=>(h4 j (by omega)).2;refine this.mono ?_;rintro e w' ⟨rfl,q,rfl⟩;have dV:Below lo w (w.drewN q):=⟨rfl,rfl,rfl,Nat.le_refl _,fun _ _=>rfl⟩
 refine⟨by rw [show k+1-k=1 by omega],?_,dV.trans (Ha h3 _ _ _)⟩;have HD:fO lo (w.drewN q) (some ⟨b,off,none⟩) c h:=Si.same fun _ _ _=>rfl;refine ae5 HD (by rw [List.length_eraseIdx,if_pos hk];omega) ?_ ?_ (fun j hj=>?_) rfl
 ·rw [List.length_eraseIdx,if_pos hk];simp;omega
 ·simp;omega
 rw [List.length_eraseIdx,if_pos hk] at hj;rw [List.getD_eq_getElem?_getD,List.getD_eq_getElem?_getD,List.getElem?_eraseIdx,List.take_length];by_cases HB:j<k
 ·rw [if_pos HB,List.append_assoc,List.getElem?_append_left (by simp;omega),List.getElem?_take,if_pos HB]
 rw [if_neg HB,List.getElem?_append_left (by simp;omega),List.getElem?_append_right (by simp;omega),List.getElem?_drop];congr 2;simp;omega
theorem ae4{lo:Nat}{w w':World}{e:TypeId}{v:Value}{h:List Int}(sl:lo≤w.heap.size)(cG:0<h.length)(ew:w'.ownsRow w.heap.size e 1 v h.length (h.map (Value.int .i64))):
  ∃b off c,v= .slice (some ⟨b,off,none⟩) h.length c∧fO lo w' (some ⟨b,off,none⟩) c h:=by
 obtain⟨_,⟨rfl,h0⟩|⟨g,cap,cur,rfl,bG,hh,hle,hm,hs,gF⟩⟩:=ew
 ·omega
 refine⟨g,0,cap,rfl,hle,hm,.inr ⟨g,0,rfl,by omega,fun j hj=>⟨?_,?_⟩,fun j hj=>?_⟩⟩
 ·have hj':0+j<cur.size:=by omega
  simp [World.cell?,hh,Array.getElem?_eq_getElem (show j<cur.size by omega)]
 ·simp [World.frozen?,hh]
 have:(cur.toList.take (h.length*1))[j]? =(h.map (Value.int .i64))[j]? :=by rw [gF]
 rw [List.getElem?_take,if_pos (by omega),Array.getElem?_toList,List.getElem?_map,List.getElem?_eq_getElem hj] at this;have e:h.getD j 0=h[j]:=by rw [List.getD_eq_getElem?_getD,List.getElem?_eq_getElem hj];rfl
 simp [World.cell?,hh,this,List.getElem?_eq_getElem hj]
theorem R5{P:Program}(w:World){ops:Array Oper}{rest:List Oper}{o:Oper}{a:Act}{Q:Exit→Act→World→Prop}
  (bG:o.guard=none) (s x:Operand) (t:TypeId) (BO:o.op=Op.call {callee:=Callee.builtin Builtin.append,args:= #[s,x],argTypes:= #[t,t]})
  (e:TypeId) (i:TypeInfo) (z:Value) (h1:P.underlying t=some (.slice e)) (h2:P.info? e=some i) (h3:i.zero=some z) (h4:i.size=1) (h5:i.bytes=8) (h6:z.cells.size=1)
  {lo:Nat} (ao:Option Addr) (c:Nat) (h:List Int) (q:Int) (hs:a.eval s= .slice ao h.length c) (hh:fO lo w ao c h) (kc:Addr) (Hf:Nat) (hx:a.eval x= .slice (some kc) 1 Hf) (bN:w.cell? (kc.add 0)=some (.int .i64 q)) (sl:lo≤w.heap.size) (cC:h.length≤1000)
  (np: ∀b off r4 w',fO lo w' (some ⟨b,off,none⟩) r4 (h++[q])→Below lo w w'→wpList P ops Q rest (a.put o.dst (.slice (some ⟨b,off,none⟩) (h.length+1) r4)) w'):
  wpList P ops Q (o::rest) a w:=by
 have Qu: ∀(j:Nat) (u:Value),[Value.int .i64 q][j]? =some u→w.cell? (kc.add j)=some u:=by
  intro j u hu
  match j,hu with
  |0,hu=>cases hu;exact bN
 have mw: ∀u∈[Value.int .i64 q],u.oneCell'=true:=by intro u hu;rw [List.mem_singleton] at hu;subst hu;rfl
 have uA:h.length+1≤maxLen:=by unfold maxLen;omega
 have grow: ∀dO w',w'.ownsRow w.heap.size e 1 dO (h.length+1) (h.map (Value.int .i64)++[Value.int .i64 q])→w.grownBy w' none→wpList P ops Q rest (a.put o.dst dO) w':=by
  intro dO w' ew afc;have afD:w'.ownsRow w.heap.size e 1 dO (h++[q]).length ((h++[q]).map (Value.int .i64)):=by simpa using ew
  obtain⟨b,off,r4,rfl,hH⟩:=ae4 (lo:=lo) (w:=w) sl (by simp) afD
  have:=np b off r4 w' hH ((Below.refl lo w).grown afc sl fun k hk=>by cases hk);rw [show(h++[q]).length=h.length+1 by simp];exact this
 obtain⟨eK,cy,⟨rfl,rfl⟩|⟨b,off,rfl,dW,ow,qX⟩⟩:=hh
 ·have h0:h=[]:=List.eq_nil_of_length_eq_zero (by omega);subst h0;exact wpList_append_grows w bG s x t BO e i z 1 8 h1 h2 h3 h4 h5 h6 (by omega) none 0 0 [] hs (fun _=>⟨rfl,rfl⟩) rfl (fun b a7=>by cases a7) kc 1 Hf [.int .i64 q] hx rfl Qu mw (by omega) uA (by omega) grow
 refine wpList_append_arg w bG s x t BO e i z 1 8 h1 h2 h3 h4 h5 h6 (by omega) b off h.length c (h.map (Value.int .i64)) hs (by simp) (fun j u hu=>?_) kc 1 Hf [.int .i64 q] hx rfl Qu mw (fun b3 j hj=>?_) uA (by omega) (fun b3=>?_) fun b3=>grow
 ·rw [List.getElem?_map] at hu;cases hg2:h[j]? with
  |none=>rw [hg2] at hu;cases hu
  |some y=>
   rw [hg2] at hu;cases hu;have hj:j<h.length:=(List.getElem?_eq_some_iff.1 hg2).1;rw [qX j hj,List.getD_eq_getElem?_getD,hg2];rfl
 ·have hj0:j=0:=by simpa using hj
  subst hj0
  have:=ow h.length (by omega);rw [Nat.mul_one,Nat.add_zero];exact this
 refine np b off c _ ?_ (Ha dW _ _ _);rw [Nat.mul_one];refine⟨by simpa using b3,cy,.inr ⟨b,off,rfl,dW,fun j hj=>⟨World.isSome_setCells _ _ _ _ _ (ow j hj).1,by rw [World.frozen?_setCells];exact(ow j hj).2⟩,fun j hj=>?_⟩⟩;by_cases BK:j<h.length
 ·rw [World.cell?_setCells_out b _ _ w _ (fun _ _=> .inl (by show off+j<off+h.length;omega)),qX j BK,List.getD_eq_getElem?_getD,List.getD_eq_getElem?_getD,List.getElem?_append_left BK]
 have afm:j=h.length:=by simp at hj;omega
 subst afm
 have:=World.cell?_setCells_in b [Value.int .i64 q] (off+h.length) w (fun k hk=>by simp at hk;subst hk;exact(ow h.length (by omega)).1) 0 (by simp);rw [Nat.add_zero] at this;rw [this];simp
end Go.Proofs
