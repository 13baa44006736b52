/- Tools. -/
import Derived.Test.YtlbojjldejlgaabGreatELiftLru
import Derived.ArgAppend
import Derived.Deep.MidRow
import Derived.Shelf.Slices.Cells
set_option linter.unusedVariables false
namespace Go.Proofs
open Go.RowKit Go.Lib Go.Shelf Go.Lift
def fi(lo:Nat)(w:World)(a:Option Addr)(c:Nat)(h:List Int):Prop:=
 h.length≤c∧c≤maxLen∧((a=none∧c=0)∨ ∃b off,a=some ⟨b,off,none⟩∧lo≤b∧(∀j,j<c→(w.cell? ⟨b,off+j,none⟩).isSome=true∧w.frozen? ⟨b,off+j,none⟩=false)∧ ∀j,j<h.length→w.cell? ⟨b,off+j,none⟩=some (.int .i64 (h.getD j 0)))
theorem fi.nil(lo:Nat)(w:World):fi lo w none 0 []:=⟨Nat.le_refl _,Nat.zero_le _,.inl ⟨rfl,rfl⟩⟩
theorem fi.ints{lo:Nat}{w:World}{a:Option Addr}{c:Nat}{h:List Int}(H:fi lo w a c h):rk w h a:=by
 intro hp;obtain⟨h1,_,h|⟨b,off,rfl,_,_,h3⟩⟩:=H
 ·omega
 exact⟨b,off,rfl,h3⟩
theorem fi.same{lo:Nat}{w w':World}{a:Option Addr}{c:Nat}{h:List Int}(H:fi lo w a c h)(aV: ∀b,lo≤b→b<w.heap.size→w'.heap[b]? =w.heap[b]?):fi lo w' a c h:=by
 obtain⟨h1,h2,h|⟨b,off,rfl,h3,h4,h5⟩⟩:=H
 ·exact⟨h1,h2,.inl h⟩
 refine⟨h1,h2,.inr ⟨b,off,rfl,h3,fun j hj=>?_,fun j hj=>?_⟩⟩
 ·obtain⟨u,hu⟩:=Option.isSome_iff_exists.1 (h4 j hj).1;have hk:=aV b h3 (World.block_lt_of_cell? w _ hu);rw [World.cell?_of_block (w:=w) (a:=⟨b,off+j,none⟩) hk,World.frozen?_of_block (w:=w) (a:=⟨b,off+j,none⟩) hk];exact h4 j hj
 have hk:=aV b h3 (World.block_lt_of_cell? w _ (h5 j hj));rw [World.cell?_of_block (w:=w) (a:=⟨b,off+j,none⟩) hk];exact h5 j hj
theorem fi.alloc{lo:Nat}{w:World}{a:Option Addr}{c:Nat}{h:List Int}(H:fi lo w a c h)(o:Obj):fi lo (w.alloc o) a c h:=
 H.same fun b _ hk=>Below.heap_alloc _ _ _ hk
theorem fi.tail{lo:Nat}{w:World}{b off c:Nat}{h:List Int}(H:fi lo w (some ⟨b,off,none⟩) c h)(hp:0<h.length)(A:Option Addr)(lh:A=if c=1 then some ⟨b,off,none⟩ else some ⟨b,off+1,none⟩):fi lo w A (c-1) (h.drop 1):=by
 obtain⟨h1,h2,h|⟨fH,ahr,e,h3,h4,h5⟩⟩:=H
 ·cases h.1
 cases e;refine⟨by rw [List.length_drop];omega,by omega,.inr ?_⟩;by_cases bB:c=1
 ·rw [if_pos bB] at lh;exact⟨b,off,lh,h3,fun j hj=>by omega,fun j hj=>by rw [List.length_drop] at hj;omega⟩
 rw [if_neg bB] at lh;refine⟨b,off+1,lh,h3,fun j hj=>?_,fun j hj=>?_⟩
 ·have:=h4 (1+j) (by omega);rw [←Nat.add_assoc] at this;exact this
 rw [List.length_drop] at hj
 have:=h5 (1+j) (by omega);rw [←Nat.add_assoc] at this;rw [this,List.getD_eq_getElem?_getD,List.getD_eq_getElem?_getD,List.getElem?_drop]
theorem Hv{B b:Nat}(aV:B≤b): ∀(vs:List Value) (o:Nat) (w:World),Below B w (w.setCells b o vs)
 | [],_,w=>Below.refl _ _
 |v::r,o,w=>((Below.refl B w).setCell (p:=⟨b,o,none⟩) aV v).trans (Hv aV r (o+1) _)
theorem afi{lo:Nat}{w w':World}{b off c:Nat}{h h':List Int}{oi:List Int}(H:fi lo w (some ⟨b,off,none⟩) c h)(b9:h'.length≤c)(eG:h'.length≤oi.length)(aiw:oi.length≤c)(he: ∀j,j<h'.length→oi.getD j 0=h'.getD j 0)(hw:w'=w.setCells b off (oi.map (Value.int .i64))):
  fi lo w' (some ⟨b,off,none⟩) c h':=by
 obtain⟨h1,h2,h|⟨fH,ahr,e,h3,h4,h5⟩⟩:=H
 ·cases h.1
 cases e;subst hw;refine⟨b9,h2,.inr ⟨b,off,rfl,h3,fun j hj=>⟨World.isSome_setCells _ _ _ _ _ (h4 j hj).1,?_⟩,fun j hj=>?_⟩⟩
 ·rw [World.frozen?_setCells];exact(h4 j hj).2
 rw [World.cell?_setCells_in b _ off w (fun k hk=>(h4 k (by simp at hk;omega)).1) j (by simp;omega)];rw [←he j hj,List.getElem_map,List.getD_eq_getElem?_getD,List.getElem?_eq_getElem (by omega)];rfl
theorem aff{P:Program}{ρ:Ren}(L:Lays2.n23 P ρ){lo:Nat}{w:World}{a:Option Addr}{c:Nat}{h:List Int}(H:fi lo w a c h)(k:Nat)(hk:k<h.length)(aV:h.length≤1000):
  Calls P (ρ.f 23) #[.slice a h.length c,.int .i64 (k:Int),.int .i64 ((k:Int)+1)] w fun e w'=>e= .returned (.slice a (h.length-1) c)∧fi lo w' a c (h.eraseIdx k)∧Below lo w w':=by
 have Sm:=H;obtain⟨h1,h2,h0|⟨b,off,rfl,h3,h4,h5⟩⟩:=H
 ·omega
 have hm:c≤9223372036854775807:=by unfold maxLen at h2;omega
 have:=Any.slices_Delete_int_cells L b off h.length c k (k+1) h w (Nat.le_refl _) h1 hm (by omega) (by omega) h5 fun j hj=>(h4 j (by omega)).2;refine this.mono ?_;rintro e w' ⟨rfl,q,rfl⟩;have di:Below lo w (w.drewN q):=⟨rfl,rfl,rfl,Nat.le_refl _,fun _ _=>rfl⟩
 refine⟨by rw [show k+1-k=1 by omega],?_,di.trans (Hv h3 _ _ _)⟩;have HD:fi lo (w.drewN q) (some ⟨b,off,none⟩) c h:=Sm.same fun _ _ _=>rfl;refine afi HD (by rw [List.length_eraseIdx,if_pos hk];omega) ?_ ?_ (fun j hj=>?_) rfl
 ·rw [List.length_eraseIdx,if_pos hk];simp;omega
 ·simp;omega
 rw [List.length_eraseIdx,if_pos hk] at hj;rw [List.getD_eq_getElem?_getD,List.getD_eq_getElem?_getD,List.getElem?_eraseIdx,List.take_length];by_cases Ip:j<k
 ·rw [if_pos Ip,List.append_assoc,List.getElem?_append_left (by simp;omega),List.getElem?_take,if_pos Ip]
 rw [if_neg Ip,List.getElem?_append_left (by simp;omega),List.getElem?_append_right (by simp;omega),List.getElem?_drop];congr 2;simp;omega
theorem afh{lo:Nat}{w w':World}{e:TypeId}{v:Value}{h:List Int}(rX:lo≤w.heap.size)(cu:0<h.length)(dY:w'.ownsRow w.heap.size e 1 v h.length (h.map (Value.int .i64))):
  ∃b off c,v= .slice (some ⟨b,off,none⟩) h.length c∧fi lo w' (some ⟨b,off,none⟩) c h:=by
 obtain⟨_,⟨rfl,h0⟩|⟨g,cap,cur,rfl,bE,hh,hle,hm,hs,eO⟩⟩:=dY
 ·omega
 refine⟨g,0,cap,rfl,hle,hm,.inr ⟨g,0,rfl,by omega,fun j hj=>⟨?_,?_⟩,fun j hj=>?_⟩⟩
 ·have hj':0+j<cur.size:=by omega
  simp [World.cell?,hh,Array.getElem?_eq_getElem (show j<cur.size by omega)]
 ·simp [World.frozen?,hh]
 have:(cur.toList.take (h.length*1))[j]? =(h.map (Value.int .i64))[j]? :=by rw [eO]
 rw [List.getElem?_take,if_pos (by omega),Array.getElem?_toList,List.getElem?_map,List.getElem?_eq_getElem hj] at this;have e:h.getD j 0=h[j]:=by rw [List.getD_eq_getElem?_getD,List.getElem?_eq_getElem hj];rfl
 simp [World.cell?,hh,this,List.getElem?_eq_getElem hj]
theorem R8{P:Program}(w:World){ops:Array Oper}{rest:List Oper}{o:Oper}{a:Act}{Q:Exit→Act→World→Prop}
  (bE:o.guard=none) (s x:Operand) (t:TypeId) (BK:o.op=Op.call {callee:=Callee.builtin Builtin.append,args:= #[s,x],argTypes:= #[t,t]})
  (e:TypeId) (i:TypeInfo) (z:Value) (h1:P.underlying t=some (.slice e)) (h2:P.info? e=some i) (h3:i.zero=some z) (h4:i.size=1) (h5:i.bytes=8) (h6:z.cells.size=1)
  {lo:Nat} (ao:Option Addr) (c:Nat) (h:List Int) (q:Int) (hs:a.eval s= .slice ao h.length c) (hh:fi lo w ao c h) (fW:Addr) (HL:Nat) (hx:a.eval x= .slice (some fW) 1 HL) (bB:w.cell? (fW.add 0)=some (.int .i64 q)) (rX:lo≤w.heap.size) (b9:h.length≤1000)
  (j8: ∀b off rI w',fi lo w' (some ⟨b,off,none⟩) rI (h++[q])→Below lo w w'→wpList P ops Q rest (a.put o.dst (.slice (some ⟨b,off,none⟩) (h.length+1) rI)) w'):
  wpList P ops Q (o::rest) a w:=by
 have Qs: ∀(j:Nat) (u:Value),[Value.int .i64 q][j]? =some u→w.cell? (fW.add j)=some u:=by
  intro j u hu
  match j,hu with
  |0,hu=>cases hu;exact bB
 have kF: ∀u∈[Value.int .i64 q],u.oneCell'=true:=by intro u hu;rw [List.mem_singleton] at hu;subst hu;rfl
 have uw:h.length+1≤maxLen:=by unfold maxLen;omega
 have grow: ∀c8 w',w'.ownsRow w.heap.size e 1 c8 (h.length+1) (h.map (Value.int .i64)++[Value.int .i64 q])→w.grownBy w' none→wpList P ops Q rest (a.put o.dst c8) w':=by
  intro c8 w' dY afr;have afT:w'.ownsRow w.heap.size e 1 c8 (h++[q]).length ((h++[q]).map (Value.int .i64)):=by simpa using dY
  obtain⟨b,off,rI,rfl,hH⟩:=afh (lo:=lo) (w:=w) rX (by simp) afT
  have:=j8 b off rI w' hH ((Below.refl lo w).grown afr rX fun k hk=>by cases hk);rw [show(h++[q]).length=h.length+1 by simp];exact this
 obtain⟨ez,cv,⟨rfl,rfl⟩|⟨b,off,rfl,dU,uG,BU⟩⟩:=hh
 ·have h0:h=[]:=List.eq_nil_of_length_eq_zero (by omega);subst h0;exact wpList_append_grows w bE s x t BK e i z 1 8 h1 h2 h3 h4 h5 h6 (by omega) none 0 0 [] hs (fun _=>⟨rfl,rfl⟩) rfl (fun b aV=>by cases aV) fW 1 HL [.int .i64 q] hx rfl Qs kF (by omega) uw (by omega) grow
 refine wpList_append_arg w bE s x t BK e i z 1 8 h1 h2 h3 h4 h5 h6 (by omega) b off h.length c (h.map (Value.int .i64)) hs (by simp) (fun j u hu=>?_) fW 1 HL [.int .i64 q] hx rfl Qs kF (fun bO j hj=>?_) uw (by omega) (fun bO=>?_) fun bO=>grow
 ·rw [List.getElem?_map] at hu;cases hg2:h[j]? with
  |none=>rw [hg2] at hu;cases hu
  |some y=>
   rw [hg2] at hu;cases hu;have hj:j<h.length:=(List.getElem?_eq_some_iff.1 hg2).1;rw [BU j hj,List.getD_eq_getElem?_getD,hg2];rfl
 ·have hj0:j=0:=by simpa using hj
  subst hj0
  have:=uG h.length (by omega);rw [Nat.mul_one,Nat.add_zero];exact this
 refine j8 b off c _ ?_ (Hv dU _ _ _);rw [Nat.mul_one];refine⟨by simpa using bO,cv,.inr ⟨b,off,rfl,dU,fun j hj=>⟨World.isSome_setCells _ _ _ _ _ (uG j hj).1,by rw [World.frozen?_setCells];exact(uG j hj).2⟩,fun j hj=>?_⟩⟩;by_cases xy:j<h.length
 ·rw [World.cell?_setCells_out b _ _ w _ (fun _ _=> .inl (by show off+j<off+h.length;omega)),BU j xy,List.getD_eq_getElem?_getD,List.getD_eq_getElem?_getD,List.getElem?_append_left xy]
 have afA:j=h.length:=by simp at hj;omega
 subst afA
 have:=World.cell?_setCells_in b [Value.int .i64 q] (off+h.length) w (fun k hk=>by simp at hk;subst hk;exact(uG h.length (by omega)).1) 0 (by simp);rw [Nat.add_zero] at this;rw [this];simp
end Go.Proofs
