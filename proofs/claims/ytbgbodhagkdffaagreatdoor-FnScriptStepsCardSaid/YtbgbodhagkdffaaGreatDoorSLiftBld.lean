/- Tools. -/
import Derived.Test.YtbgbodhagkdffaaGreatDoorSLiftAB
import Derived.Shelf.Strings.Builder1
import Derived.Lib.FrozenHead
set_option linter.unusedVariables false
namespace Go.Lift
open Go Go.Shelf Go.RowKit Go.Proofs
open Go renaming World -> bY, Value -> bm, run_underlying -> eR
open Option renaming some -> Y, none -> al
open List renaming length -> U
theorem YF{P:Program}{e:TypeId}(d:P.cellsOf e=2)(a:Nat)(h:1<=a):liesAt P P.depth e a 0 e 1=true:=by have c:P.depth=(2*(P.types.size+Made.depth)+1)+1:=rfl;rw[c];simp only[liesAt,Bool.or_eq_true];left;rw[c];simp[rowAt,d,h,sameLayout]
structure jE (b:Nat) (g:Option Nat) (w bZ:bY):Prop where
 os:bZ.os=w.os
 tape:bZ.tape=w.tape
 output:bZ.output=w.output
 size:w.heap.size<=bZ.heap.size
 keep: ∀k,k<w.heap.size->k≠b->Y k≠g->bZ.heap[k]? =w.heap[k]?
 j': ∀k,k<w.heap.size->bZ.shape? k=w.shape? k
theorem jE.refl(b:Nat)(g:Option Nat)(w:bY):jE b g w w:=⟨rfl,rfl,rfl,dV _,λ_ _ _ _=>rfl,λ_ _=>rfl⟩
theorem jE.trans{b:Nat}{g:Option Nat}{w a c:bY}(h:jE b g w a)(k:jE b g a c):jE b g w c:=
 ⟨k.os.trans h.os,k.tape.trans h.tape,k.output.trans h.output,iD h.size k.size,λi d e l=>(k.keep i (lP d h.size) e l).trans (h.keep i d e l),
 λi d=>(k.j' i (lP d h.size)).trans (h.j' i d)⟩
theorem jE.setCell(b:Nat)(g:Option Nat)(w:bY)(j:Nat)(u:bm):jE b g w (w.setCell ⟨b,j,al⟩ u):=
 ⟨rfl,rfl,rfl,aZ,λk _ a _=>CM _ _ _ _ a,λk _=>aay _ _ _ _⟩
section
variable {P:Program}{ρ:Ren}
set_option maxHeartbeats 1000000 in
set_option maxRecDepth 100000 in
theorem agp(L:Lays.n240 P ρ)(X:Proofs.Builder.X72 P ρ)(h:P.cellsOf (ρ.t 72)=2)(b m:Nat)(w:bY)(x:w.cell? ⟨b,0,al⟩=Y (.pointer al))(y:2<=m)(a:w.shape? b=Y ((ρ.t 72),m))(k:w.frozen? ⟨b,0,al⟩=false):
  Calls P (ρ.f 240) #[.pointer (Y ⟨b,0,al⟩)] w λe l=>e= .returned (.tuple #[])/\l=w.setCell ⟨b,0,al⟩ (.pointer (Y ⟨b,0,al⟩)):=by
 obtain⟨j,i,c⟩:=Option.map_eq_some_iff.1 X.sizeBuilder;have d:=L.mixed;have n:=eR L.t72;have o:=L.t70;have q:=L.a70;have r:=L.z70
 go_enter L.f240,Body.n240_ntmps ρ
 go_wp2
 rw[Lib.run_to_unsafe w ⟨b,0,al⟩ L.t70 L.t164 i (by rw[c];decide) a (by show 0<m;omega)];simp only[Result.andThen];rw[Oper.upon_value]
 go_wp2
 rw[run_callFunc_extern L.f276 J J J (e:=Extern.AbiNoEscape.same) J];rw[Lib.run_noEscape];simp only[Result.andThen];rw[Oper.upon_value]
 go_wp2
 rw[Lib.run_from_unsafe w ⟨b,0,al⟩ L.t164 L.t70 i a (YF h _ (by rw[h];omega))];simp only[Result.andThen];rw[Oper.upon_value]
 go_wp2
 go_end0
 exact⟨rfl,rfl⟩
theorem Y1(w:bY)(t u K e:TypeId)(i:TypeInfo)(R:P.underlying t=Y (.slice e))(W:P.underlying u=Y .string)(X:P.info? e=Y i)(V:i.zero=Y (.int .u8 0))
  (d:i.size=1) (F:i.bytes=1) (v:bm) (n:Nat) (xs:List bm) (h:w.ownsRow 0 e 1 v n xs) (s:ByteArray) (r:n+s.size<=maxLen) (q:n+s.size<=140737488355328):
  ∃G B,(Builtin.append_ #[t,u] K #[v,.string s]).run P w= .ok G B/\B.ownsRow 0 e 1 G (n+s.size) (xs++Lib.strCells s)/\(∀b,jE b v.ownBlock w B)/\
   (∀k,G.ownBlock=Y k->v.ownBlock=Y k\/w.heap.size<=k)/\w.grownBy B v.ownBlock:=by
 rcases h.2 with ⟨rfl,rfl⟩|⟨g,cap,c,rfl,anR,L,Wp,f,p,x⟩
 ·obtain⟨G,B,h1,E,y,h4⟩:=Lib.run_append_own_string (P:=P) w w.heap.size t u K e i R W X V d F (.slice al 0 0) 0 xs ⟨h.1,.inl ⟨rfl,rfl⟩⟩ s r q (dV _);refine⟨G,B,h1,⟨E.1,E.2.imp id λ⟨g,cap,c,aW,_,a3⟩=>⟨g,cap,c,aW,uF _,a3⟩⟩,λb=>⟨y.os,y.tape,y.output,y.size,λk a _ _=>y.block k a (by simp[Value.ownBlock]),λk a=>tl (y.block k a (by simp[Value.ownBlock]))⟩,λk a=> .inr (E.lt k a).1,y⟩
 have Q:n+s.size<=9223372036854775807:=by simp only[maxLen] at r;omega
 have z:U xs=n:=by simpa using h.1
 have l:U (xs++Lib.strCells s)=(n+s.size)*1:=by rw[ea,z,Lib.strCells_length,Nat.mul_one]
 by_cases m:n+s.size<=cap
 ·have anT:c.size=cap:=by simpa using p
  have cC:=Lib.run_append_room_stringF (P:=P) w t u K e i R W X d g n cap c (0,0) L aZ s m O;have M:(c.toList.take n++Lib.strCells s++c.toList.drop (n+s.size)).toArray.size=c.size:=by
   simp only[List.size_toArray,List.length_append,List.length_take,List.length_drop,Array.length_toList,Lib.strCells_length];omega
  have C: ∀k,Y k≠(Value.slice (Y ⟨g,0,al⟩) n cap).ownBlock->(w.setRow g (c.toList.take n++Lib.strCells s++c.toList.drop (n+s.size)).toArray).heap[k]? =w.heap[k]? :=
   λk a=>setRow_other w g k _ λe=>a (by simp[Value.ownBlock,e])
  refine⟨_,_,cC,⟨l,.inr ⟨g,cap,_,rfl,uF _,setRow_heap w g c _ e _ L,m,f,O,?_⟩⟩,λb=>⟨rfl,rfl,rfl,aZ,λk _ _ a=>C k a,λk _=>?_⟩,λk a=> .inl a,⟨rfl,rfl,rfl,aZ,λk _ a=>C k a⟩⟩
  ·have N:c.toList.take n=xs:=by simpa using x
   rw[N,<-l];exact List.take_left
  by_cases a:k=g
  ·subst a;unfold World.shape?;rw[setRow_heap w k c _ e _ L,L];simp only[M]
  exact tl (setRow_other w g k _ a)
 have A: ∀j u,xs[j]? =Y u->w.cell? ((⟨g,0,al⟩:Addr).add j)=Y u:=h.cells (g:=g) rfl;have cC:=Lib.run_append_grow_string (P:=P) w t u K e i (.int .u8 0) R W X V ⟨g,0,al⟩ n cap xs (by rw[d];simpa using z) A s O O (by rw[F];exact growslice_fits O O);have S:=grownCap_ge w (n+s.size) cap e;have H:grownCap w (n+s.size) cap e<=maxLen:=grownCap_le_maxLen w (n+s.size) cap e r;have C: ∀(o:Obj) k,k<w.heap.size->(w.drew.alloc o).heap[k]? =w.heap[k]? :=λo k a=>heap_alloc w.drew o k a;refine⟨_,_,cC,⟨l,.inr ⟨w.heap.size,_,_,rfl,uF _,kY w.drew _,S,H,?_,?_⟩⟩,λb=>⟨rfl,rfl,rfl,aZ,λk a _ _=>C _ k a,λk a=>tl (C _ k a)⟩,λk a=>?_,⟨rfl,rfl,rfl,aZ,λk a _=>C _ k a⟩⟩
 ·have T:(Value.int IntKind.u8 0).cells.size=1:=rfl;simp only[Array.size_append,List.size_toArray,size_zeroCells,T,z,Lib.strCells_length];omega
 ·simp only[Array.toList_append,List.append_assoc];rw[<-hM,<-l];exact List.take_left
 simp only[Value.ownBlock,Option.some.injEq] at a;exact .inr O
theorem aeC{c:Array Oper}{E:List Oper}{o:Oper}{a:Act}{w b:bY}{v d:bm}{s:ByteArray}{Q:Exit->Act->bY->Prop}(e:o.guard=al)(i x:Operand)(t u:TypeId)
  (k:o.op= .call {callee:= .builtin .append,args:= #[i,x],argTypes:= #[t,u]}) (l:a.eval i=v) (m:a.eval x= .string s) (n:(Builtin.append_ #[t,u] o.type #[v,.string s]).run P w= .ok d b)
  (h:wpList P c Q E (a.put o.dst d) b):wpList P c Q (o::E) a w:=by refine wpList_plain e λK q=>?_;unfold Oper.wp execOp;simp only[k,resolve,invoke,builtin,Sem.run_bind,Sem.run_pure,Result.andThen_ok,List.map_toArray,List.map_cons,List.map_nil,l,m,n];exact q _ _ h
theorem YZ(L:Lays.n240 P ρ)(X:Proofs.Builder.X72 P ρ)(m:P.cellsOf (ρ.t 72)=2)(b:Nat)(c:Array bm)(p:bm)(w:bY)(a:w.heap[b]? =Y (.cells c (ρ.t 72) (0,0)))(n:2<=c.size)(h:c[0]? =Y p)
  (o:p= .pointer al\/p= .pointer (Y ⟨b,0,al⟩)):
  Calls P (ρ.f 240) #[.pointer (Y ⟨b,0,al⟩)] w λe d=>e= .returned (.tuple #[])/\d.heap[b]? =Y (.cells (c.setIfInBounds 0 (.pointer (Y ⟨b,0,al⟩))) (ρ.t 72) (0,0))/\(∀g,jE b g w d)/\ ∀k,k≠b->d.heap[k]? =w.heap[k]? :=by
 have l:w.cell? ⟨b,0,al⟩=Y p:=by rw[Lib.cell_of_heap a];exact h
 rcases o with rfl|rfl
 ·refine(agp L X m b c.size w l n (by simp[World.shape?,a]) (Lib.frozen_of_heap a 0)).mono ?_;rintro e d ⟨rfl,rfl⟩;exact⟨rfl,Xx w b 0 _ c _ _ a,λg=>jE.setCell b g w 0 _,λk q=>CM _ _ _ _ q⟩
 refine(Proofs.Any.Builder_copyCheck_used L X b w l).mono ?_;rintro e d ⟨rfl,rfl⟩;refine⟨rfl,?_,λg=>jE.refl _ _ _,λ_ _=>rfl⟩;rw[a];congr 2;apply Array.ext
 ·simp
 intro i r y;rw[Array.getElem_setIfInBounds];split
 ·rename_i x;subst x;simpa[Array.getElem?_eq_getElem r] using h
 rfl
set_option maxHeartbeats 2000000 in
set_option maxRecDepth 100000 in
theorem Yu(L:Lays.n166 P ρ)(X:Proofs.Builder.Extra P ρ)(ch:P.cellsOf (ρ.t 72)=2)(b:Nat)(o:Array bm)(p v:bm)(d:List bm)(s:ByteArray)(w:bY)(A:w.heap[b]? =Y (.cells o (ρ.t 72) (0,0)))(hm:2<=o.size)
  (h0:o[0]? =Y p) (V:o[1]? =Y v) (hp:p= .pointer al\/p= .pointer (Y ⟨b,0,al⟩)) (B:w.ownsRow 0 (ρ.t 5) 1 v (U d) d) (q:v.ownBlock≠Y b) (C:U d+s.size<=140737488355328):
  Calls P (ρ.f 166) #[.pointer (Y ⟨b,0,al⟩),.string s] w λe G=>e= .returned (.tuple #[.int .i64 s.size,.nilIface])/\ ∃F i,G.heap[b]? =Y (.cells i (ρ.t 72) (0,0))/\i.size=o.size/\
   i[0]? =Y (.pointer (Y ⟨b,0,al⟩))/\i[1]? =Y F/\G.ownsRow 0 (ρ.t 5) 1 F (U d+s.size) (d++Lib.strCells s)/\jE b v.ownBlock w G/\(∀k,F.ownBlock=Y k->v.ownBlock=Y k\/(w.heap.size<=k/\k<G.heap.size)):=by
 obtain⟨i0,aO,R,W,j⟩:=info_parts X.infoByte;have u:=L.mixed;have aoi:=eR L.t72;have a37:=L.a37;have z37:=L.z37;have t9:=L.t9;have anE: ∀args w,(callFunc (ρ.f 240) args).run P w= .ok (.enter (ρ.f 240) args) w:=enters_of L.f240 J rfl;have E:b<w.heap.size:=(mm.1 A).1
 go_enter L.f166,Body.n166_ntmps ρ
 go_wp2_with (go_at_fn (ρ.f 240);refine(YZ {L with} X.toX72 ch b o p _ A hm h0 hp).mono ?_)
 rintro e H ⟨rfl,r,a,M⟩;have x:H.ownsRow 0 (ρ.t 5) 1 v (U d) d:=by
  refine B.kept (row:=Y b) ⟨(a al).os,(a al).tape,(a al).output,(a al).size,λk _ m=>M k λe=>m (by rw[e])⟩ (Or.inr q)
 have c0:H.cell? ⟨b,0,al⟩=Y (.pointer (Y ⟨b,0,al⟩)):=by rw[Lib.cell_of_heap r,wR,bk rfl,bk O]
 have c1:H.cell? ⟨b,1,al⟩=Y v:=by rw[Lib.cell_of_heap r,wR];simpa using V
 obtain⟨F,z,cC,c,N,n,y⟩:=Y1 (P:=P) H (ρ.t 37) (ρ.t 9) (ρ.t 37) (ρ.t 5) i0 L.t37 L.t9 aO R W j v (U d) d x s (by unfold maxLen;omega) C;have l:z.heap[b]? =Y (.cells (o.setIfInBounds 0 (.pointer (Y ⟨b,0,al⟩))) (ρ.t 72) (0,0)):=by
  rw[y.block b (lP E (a al).size) λe=>q e.symm];exact r
 have d0:z.cell? ⟨b,0,al⟩=Y (.pointer (Y ⟨b,0,al⟩)):=by rw[Lib.cell_of_heap l,wR,bk rfl,bk O]
 have d1:z.cell? ⟨b,1,al⟩=Y v:=by rw[Lib.cell_of_heap l,wR];simpa using V
 have f1:z.frozen? ⟨b,1,al⟩=false:=Lib.frozen_of_heap l 1;obtain⟨K,Q,cap,rfl⟩: ∃K Q cap,F= .slice K Q cap:=by
  rcases c.2 with ⟨S,_⟩|⟨g,cap,cur,S,_⟩
  ·exact⟨_,_,_,S⟩
  exact⟨_,_,_,S⟩
 go_wp2_with (at_builtin;refine aeC rfl _ _ (ρ.t 37) (ρ.t 9) rfl rfl rfl cC ?_)
 go_wp2
 go_ret2
 have T: ∀k,(Value.slice K Q cap).ownBlock=Y k->k≠b:=λk m e=>by
  subst e;rcases n k m with h|h
  ·exact q h
  have:=(a al).size;omega
 refine⟨rfl,.slice K Q cap,_,Xx z b 1 _ _ _ _ l,aZ,?_,?_,?_,((a _).trans (N b)).trans (jE.setCell b _ z 1 _),λk m=>?_⟩
 ·rw[wR,bh (by decide),wR,bk rfl,bk O]
 ·rw[wR,bk rfl,bk (by rw[Array.size_setIfInBounds];omega)]
 ·refine c.kept (row:=Y b) ⟨rfl,rfl,rfl,aZ,λk _ m=>CM _ _ _ _ λe=>m (by rw[e])⟩ (Or.inr λe=>T b e rfl)
 rcases n k m with h|h
 ·exact .inl h
 exact .inr ⟨iD (a al).size h,by simpa using (c.lt k m).2⟩
theorem jE.drew(b:Nat)(g:Option Nat)(w:bY):jE b g w w.drew:=⟨rfl,rfl,rfl,dV _,λ_ _ _ _=>rfl,λ_ _=>rfl⟩
theorem P6(w:bY)(p:Addr)(n k:Nat)(h:k≠p.block):(w.freeze p n).heap[k]? =w.heap[k]? :=by
 unfold World.freeze;split
 ·rfl
 simp only[Array.getElem?_modify];rw[bh O]
theorem jE.freeze(b g:Nat)(w:bY)(n:Nat):jE b (Y g) w (w.freeze ⟨g,0,al⟩ n):=by
 have i:(w.freeze ⟨g,0,al⟩ n).heap.size=w.heap.size:=by unfold World.freeze;split<;>simp
 refine⟨by unfold World.freeze;split<;>rfl,by unfold World.freeze;split<;>rfl,by unfold World.freeze;split<;>rfl,O,λk _ _ c=>P6 _ _ _ _ (λe=>c (by rw[e])),λk c=>?_⟩;by_cases d:n=0
 ·unfold World.freeze;rw[bk d]
 unfold World.freeze;rw[bh d];unfold World.shape?;simp only[Array.getElem?_modify];by_cases a:g=k
 ·subst a;rw[bk rfl];cases h:w.heap[g]? with
  |none=>rfl
  |some o=>cases o<;>rfl
 rw[bh a]
set_option maxHeartbeats 2000000 in
set_option maxRecDepth 100000 in
theorem Y0(L:Lays.n169 P ρ)(X:Proofs.Builder.Extra P ρ)(b:Nat)(us:Array bm)(v:bm)(l:List UInt8)(r:l≠[])(w:bY)(h:w.heap[b]? =Y (.cells us (ρ.t 72) (0,0)))(y:us[1]? =Y v)
  (a:w.ownsRow 0 (ρ.t 5) 1 v (U l) (Lib.byteCells l)) (i:v.ownBlock≠Y b):
  Calls P (ρ.f 169) #[.pointer (Y ⟨b,0,al⟩)] w λe bZ=>e= .returned (.string ⟨l.toArray⟩)/\bZ.heap[b]? =w.heap[b]? /\jE b v.ownBlock w bZ:=by
 have k:U l≠0:=by simpa using r
 rcases a.2 with ⟨rfl,z⟩|⟨g,c,d,rfl,A,B,C,m,F,n⟩
 ·exact bu z k
 have s:w.drew.cell? ⟨b,1,al⟩=Y (.slice (Y ⟨g,0,al⟩) (U l) c):=by
  have:w.drew.heap[b]? =Y (.cells us (ρ.t 72) (0,0)):=h;rw[Lib.cell_of_heap this];exact y
 have G:(Builtin.unsafeSliceData_ #[(ρ.t 37)] (ρ.t 127) #[.slice (Y ⟨g,0,al⟩) (U l) c]).run P w.drew= .ok (.pointer (Y ⟨g,0,al⟩)) w.drew:=Lib.run_unsafeSliceData_row _ _ _ _ _ _ O;have H:(Builtin.unsafeString_ #[(ρ.t 127),(ρ.t 3)] (ρ.t 9) #[.pointer (Y ⟨g,0,al⟩),.int .i64 (U l)]).run P w.drew= .ok (.string ⟨l.toArray⟩) (w.drew.freeze ⟨g,0,al⟩ (U l)):=by
  refine Lib.run_unsafeString_row w.drew (ρ.t 127) (ρ.t 3) (ρ.t 9) (ρ.t 5) L.t127 X.cellsByte g d.size (by have o:w.drew.heap[g]? =Y (.cells d (ρ.t 5) (0,0)):=B;simp[World.shape?,o]) l r O (by unfold maxLen at m;omega) ?_;intro j x K;exact a.cells (g:=g) rfl j (.int .u8 x.toNat) (by simp[Lib.byteCells,K])
 have q:=L.mixed;have Q:=eR L.t72;have R:=L.t37;have W:=L.a37;have p:=L.z37
 go_enter L.f169,Body.n169_ntmps ρ
 go_wp2
 go_region_o
 all_goals (go_wp2;go_ret;exact⟨rfl,P6 _ _ _ _ (λe=>i (by simp[Value.ownBlock,e])),(jE.drew b _ w).trans (jE.freeze b g _ _)⟩)
end
end Go.Lift
