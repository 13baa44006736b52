/- Tools. -/
import Derived.Tactics
import Derived.Deep.Quiet
import Derived.Laws.World
import Derived.Laws.Sem
import Derived.WalkKit
namespace Go.Lift
open Go
abbrev bJ:=@decide_eq_false
abbrev bK:=@decide_eq_true
abbrev aR.{u}:=@if_pos.{u}
abbrev aP.{u}:=@if_neg.{u}
abbrev bB.{u}:=@absurd.{u}
abbrev fF:=@of_decide_eq_true
open Option renaming some -> aa, none -> aj, map_some -> hv
open Bool renaming true -> ab, false -> ak, and_eq_true -> b9
open Decidable renaming decide -> ag
open List renaming length_append -> im, length_take -> k', replicate -> dA
open Go.Result renaming andThen_ok -> fu
open Go.World renaming shape? -> hz
open Go.Sem renaming run_bind -> fx, run_pure -> kF
open Nat renaming beq -> b5, blt -> dt, ble -> db
section
variable {p:Prop}{X Z:Nat->Prop}{a b c w w':World}{v u:Value}{m:Option Nat}{i j k n sz:Nat}
theorem O(h:p:=by omega):p:=h
theorem J(h:p:=by dsimp only;omega):p:=h
theorem Y(h:p:=by kernel_rfl):p:=h
theorem aX(h:p:=by simp):p:=h
theorem bQ(h:p:=by simp;omega):p:=h
abbrev bp.{u}:=@List.getElem?_eq_getElem.{u}
abbrev bS.{u}:=@List.getElem?_eq_some_iff.{u}
abbrev bx.{u}:=@List.mem_of_getElem?.{u}
abbrev cf:=@Int.toNat_natCast
abbrev de:=@Nat.eq_of_beq_eq_true
abbrev cZ.{u}:=@List.length_take.{u}
abbrev eQ.{u}:=@List.getD_eq_getElem?_getD.{u}
abbrev eh:=@Nat.mul_le_mul_right
abbrev eo.{u}:=@List.mem_cons_of_mem.{u}
abbrev ea.{u}:=@List.length_append.{u}
abbrev eP:=@Nat.le_of_ble_eq_true
abbrev dJ.{u,v}:=@List.length_map.{u,v}
abbrev eD.{u}:=@List.mem_cons_self.{u}
abbrev dW.{u}:=@List.take_length.{u}
abbrev cR:=@Nat.le_refl
abbrev eL.{u,v}:=@List.getElem?_map.{u,v}
abbrev eO.{u}:=@List.take_add_one.{u}
abbrev fq.{u}:=@List.mem_of_mem_drop.{u}
abbrev eC.{u}:=@List.mem_append.{u}
abbrev gD.{u}:=@List.getElem?_set_self.{u}
abbrev eN.{u,v}:=@List.map_append.{u,v}
abbrev iE.{u}:=@List.getElem?_append_right.{u}
abbrev dQ:=@Nat.zero_add
abbrev ez.{u}:=@List.mem_cons.{u}
abbrev e6.{u}:=@List.length_set.{u}
abbrev iY.{u}:=@Array.getElem?_eq_getElem.{u}
abbrev gP.{u}:=@List.mem_of_mem_take.{u}
abbrev jq.{u}:=@List.getElem?_append_left.{u}
abbrev fN.{u}:=@List.append_assoc.{u}
abbrev eA.{u,v}:=@List.mem_map.{u,v}
abbrev fM.{u}:=@List.length_drop.{u}
abbrev kB.{u}:=@Array.getElem?_eq_some_iff.{u}
abbrev gZ.{u}:=@List.getElem?_drop.{u}
abbrev g'.{u}:=@List.getElem?_take.{u}
abbrev eu:=@Nat.add_mul
abbrev gC.{u}:=@List.getElem_mem.{u}
abbrev jr.{u}:=@List.mem_append_right.{u}
abbrev gQ.{u}:=@List.all_eq_true.{u}
abbrev jQ.{u}:=@List.mem_iff_getElem?.{u}
abbrev js.{u}:=@List.getElem?_set_ne.{u}
abbrev lI.{u}:=@List.drop_eq_getElem_cons.{u}
abbrev hq.{u,v}:=@List.mem_flatMap.{u,v}
abbrev kd.{u}:=@List.mem_append_left.{u}
abbrev fv.{u,v,w}:=@List.map_map.{u,v,w}
abbrev gr:=@Bool.true_and
abbrev oN.{u}:=@List.eq_nil_of_length_eq_zero.{u}
abbrev lJ.{u}:=@List.drop_eq_nil_of_le.{u}
abbrev ij:=@Bool.eq_iff_iff
abbrev iX.{u}:=@List.any_eq_true.{u}
abbrev ma.{u}:=@List.take_of_length_le.{u}
abbrev jt.{u,v,w}:=@List.map_flatMap.{u,v,w}
abbrev lK.{u,v}:=@List.map_congr_left.{u,v}
abbrev mb.{u}:=@List.getElem?_of_mem.{u}
abbrev mX.{u}:=@List.take_append_drop.{u}
abbrev gu:=@Int.le_refl
abbrev mc.{u,v}:=@List.flatMap_append.{u,v}
abbrev ke.{u}:=@List.append_nil.{u}
abbrev nQ.{u}:=@List.set_append_right.{u}
abbrev ss.{u}:=@List.take_append_of_le_length.{u}
abbrev ik:=@Nat.zero_mul
abbrev iF:=@Nat.le_trans
abbrev mY:=@Nat.lt_of_lt_of_le
abbrev su.{u}:=@Array.getD_eq_getD_getElem?.{u}
abbrev mZ.{u}:=@List.all_eq_false.{u}
abbrev nR.{u}:=@List.pairwise_cons.{u}
abbrev k7:=@Bool.and_false
abbrev q9.{u}:=@List.length_eq_one_iff.{u}
abbrev nS.{u,v}:=@List.flatMap_cons.{u,v}
abbrev q'.{u}:=@List.getElem?_eq_none.{u}
abbrev ra.{u}:=@Array.getElem?_toList.{u}
abbrev nT:=@Bool.and_eq_true
abbrev uI.{u}:=@List.mem_or_eq_of_mem_set.{u}
abbrev kC:=@Nat.sub_self
abbrev pK.{u}:=@List.mem_singleton.{u}
abbrev pL.{u}:=@List.filter_append.{u}
abbrev w4.{u}:=@List.mem_zipIdx_iff_getElem?.{u}
abbrev rb.{u}:=@Array.length_toList.{u}
abbrev sv.{u}:=@List.length_singleton.{u}
abbrev q5.{u}:=@List.drop_set_of_lt.{u}
abbrev mV:=@Int.mul_nonneg
abbrev mW:=@Bool.and_assoc
abbrev oO.{u}:=@List.drop_length.{u}
abbrev uE.{u}:=@List.getElem?_replicate.{u}
abbrev pF:=@Nat.lt_succ_self
abbrev pG.{u,v,w}:=@List.flatMap_map.{u,v,w}
abbrev pH.{u,v}:=@List.flatMap_def.{u,v}
abbrev oP:=@Nat.mul_le_mul
abbrev pI:=@List.range_succ
abbrev pJ.{u}:=@List.drop_zero.{u}
abbrev q6:=@Nat.not_lt_zero
abbrev w2:=@Nat.div_lt_iff_lt_mul
abbrev uF.{u}:=@List.mem_replicate.{u}
abbrev EX.{u}:=@List.drop_append_of_le_length.{u}
abbrev q7:=@Int.mul_le_mul
abbrev EY:=@Int.tdiv_eq_ediv_of_nonneg
abbrev q8:=@Nat.add_assoc
abbrev zV.{u}:=@List.length_replicate.{u}
abbrev KQ.{u}:=@List.findIdx?_eq_some_iff_getElem.{u}
abbrev EZ.{u}:=@List.exists_mem_of_ne_nil.{u}
abbrev uG.{u}:=@List.nil_append.{u}
abbrev uH.{u}:=@List.any_append.{u}
abbrev KR.{u}:=@Array.eq_empty_of_size_eq_zero.{u}
abbrev zW:=@Int.toNat_of_nonneg
abbrev w3.{u,v}:=@Array.toList_map.{u,v}
abbrev w5:=@Nat.lt_of_not_le
abbrev zY.{u}:=@List.set_cons_zero.{u}
abbrev sw:=@Nat.add_zero
abbrev E1.{u,v}:=@List.pairwise_flatMap.{u,v}
abbrev zZ.{u}:=@List.ext_getElem?.{u}
abbrev uJ.{u,v}:=@List.map_take.{u,v}
abbrev E2.{u}:=@List.set_append_left.{u}
abbrev w6:=@List.mem_range
abbrev E3.{u,v}:=@List.mem_map_of_mem.{u,v}
abbrev E4.{u}:=@List.take_set_of_le.{u}
abbrev E5.{u,v,w}:=@List.length_zipWith.{u,v,w}
abbrev uK.{u}:=@List.set_set.{u}
abbrev w7.{u,v}:=@List.map_cons.{u,v}
inductive T where
  |bool (b:Bool)
  |int (k:IntKind) (n:Int)
  |str (s:List UInt8)
  |bE (rows:List (List T))
  |fT
  |iA
  |hn
  |oC
  |err
  deriving Inhabited
inductive V where
  |t (x:T)
  |agg (cs:List V)
  |bM (vs:List V)
  |ref (id off:Nat)
  |aS (cells:List T)
  |bg (id gen size off len:Nat)
  |cK (id gen size i off:Nat)
  |fn (f:FuncId) (aks:List V)
  |dh
  deriving Inhabited
structure dB where
  ty:TypeId
  size:Nat
  bk:List (Nat×Nat)
def vo:List (Nat×Nat)->Nat->Option Nat
  | [],_=>aj
  |p::l,j=>bif b5 p.1 j then aa p.2 else vo l j
def dB.eV(d:dB)(j:Nat):Option Nat:=vo d.bk j
def ajB:dB:=⟨0,0,[]⟩
def aU(Γ:List dB)(m:Nat):dB:=Γ.getD m ajB
inductive E where
  |cells (cs:List V)
  |arr (ty:TypeId) (gen size:Nat) (rows:List (List T))
  |a7 (Γ:List dB) (m gen:Nat) (rows:List (List T)) (open_:List (Nat×Nat×V))
structure Map where
  f:Nat->Option (Option Nat×Nat)
  n:Nat->Nat->Prop
instance:CoeFun Map (λ_=>Nat->Option (Option Nat×Nat)):=⟨Map.f⟩
def At(a:Map)(c b:Nat):Prop:=(∃g,a c=aa (aa b,g))\/a.n c b
def ed(e a:Map):Prop:= ∀id q g,e id=aa (q,g)->a id=aa (q,g)\/(1<=g/\ ∃h c,a id=aa (h,c)/\g<c)
theorem ed.refl(β:Map):ed β β:=λ_ _ _ h=> .inl h
variable {β W β':Map}{e:E}
theorem ed.of(h: ∀id x,β id=aa x->W id=aa x):ed β W:=λ_ _ _ a=> .inl (h _ _ a)
structure Ext (X:Nat->Prop) (w w':World):Prop where
  os:w'.os=w.os
  tape:w'.tape=w.tape
  output:w'.output=w.output
  size:w.heap.size<=w'.heap.size
  keep: ∀b,b<w.heap.size-> ¬X b->w'.heap[b]? =w.heap[b]?
theorem Ext.refl(X:Nat->Prop)(w:World):Ext X w w:=⟨rfl,rfl,rfl,cR _,λ_ _ _=>rfl⟩
theorem Ext.trans(h:Ext X a b)(k:Ext X b c):Ext X a c:=
  ⟨k.os.trans h.os,k.tape.trans h.tape,k.output.trans h.output,iF h.size k.size,
   λi e l=>(k.keep i (mY e h.size) l).trans (h.keep i e l)⟩
theorem Ext.trans'(h:Ext X a b)(k:Ext (λi=> ¬(i<a.heap.size/\ ¬X i)) b c):Ext X a c:=
  ⟨k.os.trans h.os,k.tape.trans h.tape,k.output.trans h.output,iF h.size k.size,
   λi e l=>(k.keep i (mY e h.size) λm=>m ⟨e,l⟩).trans (h.keep i e l)⟩
theorem Ext.weaken(h:Ext X a b)(e: ∀i,i<a.heap.size->X i->Z i):Ext Z a b:=
  ⟨h.os,h.tape,h.output,h.size,λi c k=>h.keep i c λl=>k (e i c l)⟩
theorem Ext.drew(X:Nat->Prop)(w:World):Ext X w w.drew:=⟨rfl,rfl,rfl,cR _,λ_ _ _=>rfl⟩
theorem AL(w:World)(o:Obj)(k:Nat)(h:k<w.heap.size):(w.alloc o).heap[k]? =w.heap[k]? :=by
  show(w.heap.push o)[k]? =_
  grind
theorem kP(w:World)(o:Obj):(w.alloc o).heap[w.heap.size]? =aa o:=by show(w.heap.push o)[w.heap.size]? =_;simp
theorem Ext.alloc(X:Nat->Prop)(w:World)(o:Obj):Ext X w (w.alloc o):=
  ⟨rfl,rfl,rfl,aX,λk a _=>AL _ _ _ a⟩
theorem zm{b:Nat}(h:a.heap[b]? =w.heap[b]?):a.shape? b=w.shape? b:=by unfold hz;rw[h]
def Shaped(_β:Map)(w a:World):Prop:= ∀b,b<w.heap.size->a.shape? b=w.shape? b
theorem Shaped.refl(β:Map)(w:World):Shaped β w w:=λ_ _=>rfl
theorem tV(e:Ext (λ_=>False) w w'):Shaped W w w':=λb a=>zm (e.keep b a λh=>h)
theorem XV(w:World)(a:Addr)(u:Value)(k:Nat)(h:k≠a.block):(w.setCell a u).heap[k]? =w.heap[k]? :=by
  simp only[World.setCell,Array.getElem?_modify]
  grind
theorem Ext.setCell(w:World)(a:Addr)(u:Value)(h:X a.block):Ext X w (w.setCell a u):=
  ⟨rfl,rfl,rfl,aX,λk _ c=>XV _ _ _ _ λe=>c (e▸h)⟩
theorem ET{a:Addr}(h:b.heap[a.block]? =w.heap[a.block]?):b.cell? a=w.cell? a:=by unfold World.cell?;rw[h]
inductive df (w:World) (X:Nat->Prop):T->Value->Prop where
  |bool (b:Bool):df w X (.bool b) (.bool b)
  |int (k:IntKind) (n:Int):df w X (.int k n) (.int k n)
  |str (l:List UInt8):df w X (.str l) (.string ⟨l.toArray⟩)
  |gX (a:Option Addr) (cap:Nat):df w X (.bE []) (.slice a 0 cap)
  |bE (rows:List (List T)) (b off size cap:Nat) (f:Nat->Nat->Value) (bb:b<w.heap.size) (iv: ¬X b) (JB:rows.length<=cap)
      (lX: ∀row,row∈rows->row.length=size)
      (bT: ∀i j,i<rows.length->j<size->w.cell? ⟨b,off+i*size+j,aj⟩=aa (f i j))
      (b8: ∀(i j:Nat) (row:List T) (x:T),rows[i]? =aa row->row[j]? =aa x->df w X x (f i j)):
      df w X (.bE rows) (.slice (aa ⟨b,off,aj⟩) rows.length cap)
  |fT:df w X .fT (.slice aj 0 0)
  |iA:df w X .iA (.pointer aj)
  |hn:df w X .hn .nilIface
  |oC:df w X .oC .nilFunc
  |err (t:TypeId) (v:Value):df w X .err (.iface t v)
theorem df.mono{x:T}(h:df w X x v)(e:Ext X w w')(A: ∀b,b<w.heap.size->Z b->X b):df w' Z x v:=by
  induction h with
  |bool b=>exact .bool b
  |int k n=>exact .int k n
  |str l=>exact .str l
  |gX a c=>exact .gX a c
  |bE m b r o c f s p q y B _ C=>
    exact .bE m b r o c f (mY s e.size) (λh=>p (A b s h)) q y
      (λi j F G=>by rw[ET (w:=w) (e.keep b s p)];exact B i j F G) (λi j z x K L=>C i j z x K L)
  |fT=>exact .fT
  |iA=>exact .iA
  |hn=>exact .hn
  |oC=>exact .oC
  |err t v=>exact .err t v
inductive bq (β:Map) (w:World) (X:Nat->Prop):V->Value->Prop where
  |t (x:T) (v:Value):df w X x v->bq β w X (.t x) v
  |agg (cs:List V) (us:Array Value) (cI:us.size=cs.length) (h: ∀(i:Nat) c u,cs[i]? =aa c->us[i]? =aa u->bq β w X c u):bq β w X (.agg cs) (.agg us)
  |bM (cs:List V) (us:Array Value) (cI:us.size=cs.length) (h: ∀(i:Nat) c u,cs[i]? =aa c->us[i]? =aa u->bq β w X c u):bq β w X (.bM cs) (.tuple us)
  |ref (id off b:Nat) (bb:β id=aa (aa b,0)):bq β w X (.ref id off) (.pointer (aa ⟨b,off,aj⟩))
  |aS (cells:List T) (b off:Nat) (f:Nat->Value) (bb:b<w.heap.size) (iv: ¬X b)
      (bT: ∀j,j<cells.length->w.cell? ⟨b,off+j,aj⟩=aa (f j))
      (b8: ∀(j:Nat) (x:T),cells[j]? =aa x->df w X x (f j)):bq β w X (.aS cells) (.pointer (aa ⟨b,off,aj⟩))
  |bg (id gen size off len cap b n:Nat) (ty:TypeId) (bL:1<=gen) (bb:β id=aa (aa b,gen)) (hw:b<w.heap.size) (hs:w.shape? b=aa (ty,n)) (cY:(off+cap)*size=n) (cI:len<=cap) (hm:cap<=maxLen):
      bq β w X (.bg id gen size off len) (.slice (aa ⟨b,off*size,aj⟩) len cap)
  |iT (id gen size:Nat) (bL:1<=gen) (bb:β id=aa (aj,gen)):bq β w X (.bg id gen size 0 0) (.slice aj 0 0)
  |l3 (id gen size off len:Nat) (v:Value) (q:Option Nat) (g:Nat) (fc:v.oneCell'=ab) (bb:β id=aa (q,g)) (bL:gen<g):bq β w X (.bg id gen size off len) v
  |cK (id gen size i off b:Nat) (bL:1<=gen) (bb:β id=aa (aa b,gen)):bq β w X (.cK id gen size i off) (.pointer (aa ⟨b,i*size+off,aj⟩))
  |mz (id gen size i off:Nat) (v:Value) (q:Option Nat) (g:Nat) (fc:v.oneCell'=ab) (bb:β id=aa (q,g)) (bL:gen<g):bq β w X (.cK id gen size i off) v
  |fn (f:FuncId) (cs:List V) (us:Array Value) (cI:us.size=cs.length) (h: ∀(i:Nat) c u,cs[i]? =aa c->us[i]? =aa u->bq β w X c u):
      bq β w X (.fn f cs) (.func (.func f) #[] us)
  |dh (v:Value):bq β w X .dh v
theorem bq.mono{x:V}(h:bq β w X x v)(e:Ext X w w')(F: ∀b,b<w.heap.size->Z b->X b)
    (m:ed β β') (G:Shaped β w w'):bq β' w' Z x v:=by
  induction h with
  |t x v h=>exact .t x v (h.mono e F)
  |agg cs z y _ A=>exact .agg cs z y A
  |bM cs z y _ A=>exact .bM cs z y A
  |ref id c b k=>
    rcases m _ _ _ k with h|⟨h,_⟩
    · exact .ref id c b h
    · omega
  |aS cells b c f k B Q R=>
    exact .aS cells b c f (mY k e.size) (λh=>B (F b k h)) (λj W=>by rw[ET (w:=w) (e.keep b k B)];exact Q j W)
      (λj x h=>(R j x h).mono e F)
  |bg id gen a c o K b n ty p k L u D y I=>
    rcases m _ _ _ k with h|⟨_,r,s,h,l⟩
    · exact .bg id gen a c o K b n ty p h (mY L e.size) (by rw[G b L];exact u) D y I
    · exact .l3 id gen a c o _ r s rfl h l
  |iT id gen a p k=>
    rcases m _ _ _ k with h|⟨_,r,s,h,l⟩
    · exact .iT id gen a p h
    · exact .l3 id gen a 0 0 _ r s rfl h l
  |l3 id gen a c o v q g C k p=>
    rcases m _ _ _ k with h|⟨_,r,s,h,l⟩
    · exact .l3 id gen a c o v q g C h p
    · exact .l3 id gen a c o v r s C h O
  |cK id gen a i c b p k=>
    rcases m _ _ _ k with h|⟨_,r,s,h,l⟩
    · exact .cK id gen a i c b p h
    · exact .mz id gen a i c _ r s rfl h l
  |mz id gen a i c v q g C k p=>
    rcases m _ _ _ k with h|⟨_,r,s,h,l⟩
    · exact .mz id gen a i c v q g C h p
    · exact .mz id gen a i c v r s C h O
  |fn f cs z y _ A=>exact .fn f cs z y A
  |dh v=>exact .dh v
inductive hB (Γ:List dB) (w:World) (X:Nat->Prop):Option Nat->T->Value->(Nat->Prop)->Prop where
  |kS (x:T) (v:Value) (N:Nat->Prop) (h:df w X x v) (gz: ∀c,¬N c):hB Γ w X aj x v N
  |nil (m:Nat) (N:Nat->Prop) (gz: ∀c,¬N c):hB Γ w X (aa m) (.bE []) (.slice aj 0 0) N
  |own (m:Nat) (rows:List (List T)) (b cap:Nat) (us:Array Value) (B:Nat->Nat->Nat->Prop) (N:Nat->Prop)
      (hw:w.heap[b]? =aa (.cells us (aU Γ m).ty (0,0))) (hs:us.size=cap*(aU Γ m).size) (hm:cap<=maxLen) (cI:rows.length<=cap)
      (lX: ∀row,row∈rows->row.length=(aU Γ m).size)
      (b8: ∀(i j:Nat) (row:List T) (x:T) (u:Value),rows[i]? =aa row->row[j]? =aa x->us[i*(aU Γ m).size+j]? =aa u->hB Γ w X ((aU Γ m).eV j) x u (B i j))
      (gm: ∀i j c,B i j c->i<rows.length/\j<(aU Γ m).size/\c≠b)
      (cD: ∀i j jI eH c,B i j c->B jI eH c->i=jI/\j=eH)
      (gz: ∀c,N c↔c=b\/ ∃i j,B i j c):
      hB Γ w X (aa m) (.bE rows) (.slice (aa ⟨b,0,aj⟩) rows.length cap) N
theorem hB.mono{D:List dB}{x:T}{N:Nat->Prop}(h:hB D w X m x v N)(e:Ext X w w')(r: ∀b,b<w.heap.size->Z b->X b)
    (q: ∀b,N b->w'.heap[b]? =w.heap[b]?):hB D w' Z m x v N:=by
  induction h with
  |kS x v N h a=>exact .kS x v N (h.mono e r) a
  |nil m N a=>exact .nil m N a
  |own m k b n s B N y l z A o W C F a G=>
    refine .own m k b n s B N ?_ l z A o (λi j p x u K L Q=>G i j p x u K L Q λc R=>q c ((a c).2 (.inr ⟨i,j,R⟩))) C F a;rw[q b ((a b).2 (.inl rfl))];exact y
theorem hB.iff{D:List dB}{x:T}{N:Nat->Prop}(h:hB D w X m x v N)(a: ∀c,Z c↔N c):hB D w X m x v Z:=by
  cases h with
  |kS _ _ _ h e=>exact .kS _ _ _ h (λc k=>e c ((a c).1 k))
  |nil _ _ e=>exact .nil _ _ (λc k=>e c ((a c).1 k))
  |own m i b l o B _ p q r s n y z A e=>exact .own m i b l o B _ p q r s n y z A λc=>(a c).trans (e c)
theorem hB.lt{D:List dB}{x:T}{N:Nat->Prop}(h:hB D w X m x v N): ∀c,N c->c<w.heap.size:=by
  induction h with
  |kS _ _ _ _ a=>exact λc e=>bB e (a c)
  |nil _ _ a=>exact λc e=>bB e (a c)
  |own m k b l q B N r s C F n G y K a z=>
    intro c e;rcases(a c).1 e with rfl|⟨i,j,o⟩
    · exact(kB.1 r).1
    · obtain⟨p,L,_⟩:=y i j c o;have Q:=n _ (gC p);have A:i*(aU D m).size+j<q.size:=by
        rw[s]
        have:(i+1)*(aU D m).size<=l*(aU D m).size:=eh _ O;rw[eu] at this;omega
      exact z i j _ (k[i][j]' O) _ (bp p) (bp O) (iY A) c o
theorem hB.zO{D:List dB}{x:T}{N:Nat->Prop}(h:hB D w X m x v N)(A: ∀b,Z b->X b)(l: ∀b,N b-> ¬Z b):df w Z x v:=by
  induction h with
  |kS x v N h q=>exact h.mono (Ext.refl _ _) (λb _=>A b)
  |nil m N q=>exact .gX _ _
  |own m n b e k B N s y Q C o R W f q F=>
    refine .bE n b 0 (aU D m).size e (λi j=>k.getD (i*(aU D m).size+j) undef) (kB.1 s).1 (l b ((q b).2 (.inl rfl))) C o (λi j hi G=>?_) λi j p x r z=>?_
    · have a:i*(aU D m).size+j<k.size:=by
        rw[y]
        have:(i+1)*(aU D m).size<=e*(aU D m).size:=eh _ O;rw[eu] at this;omega
      simp[World.cell?,s,a]
    · have hi:=(bS.1 r).1;have G:j<(aU D m).size:=by rw[<-o p (bx r)];exact(bS.1 z).1
      have a:i*(aU D m).size+j<k.size:=by
        rw[y]
        have:(i+1)*(aU D m).size<=e*(aU D m).size:=eh _ O;rw[eu] at this;omega
      have K:k.getD (i*(aU D m).size+j) undef=k[i*(aU D m).size+j]:=by simp[a]
      show df w Z x (k.getD (i*(aU D m).size+j) undef);rw[K];exact F i j p x _ r z (iY a) λc L=>l c ((q c).2 (.inr ⟨i,j,L⟩))
def Cell(a:List dB)(m:Nat)(e:List (Nat×Nat×V))(β:Map)(w:World)(X:Nat->Prop)(i j:Nat)(x:T)(u:Value)(N:Nat->Prop):Prop:=
  (∀v,(i,j,v)∈e->bq β w X v u/\ ∀c,¬N c)/\((∀v,(i,j,v)∉e)->hB a w X ((aU a m).eV j) x u N)
theorem Cell.mono{D:List dB}{m:Nat}{I:List (Nat×Nat×V)}{x:T}{N:Nat->Prop}(h:Cell D m I β w X i j x u N)
    (e:Ext X w w') (l: ∀b,b<w.heap.size->Z b->X b) (a:ed β β') (c:Shaped β w w') (k: ∀b,N b->w'.heap[b]? =w.heap[b]?):Cell D m I β' w' Z i j x u N:=
  ⟨λv n=>⟨(h.1 v n).1.mono e l a c,(h.1 v n).2⟩,λo=>(h.2 o).mono e l k⟩
theorem Cell.none{D:List dB}{m:Nat}{x:T}{N:Nat->Prop}(h:Cell D m [] β w X i j x u N):hB D w X ((aU D m).eV j) x u N:=h.2 λ_ a=>List.not_mem_nil a
theorem Cell.of{D:List dB}{m:Nat}{x:T}{N:Nat->Prop}(h:hB D w X ((aU D m).eV j) x u N):Cell D m [] β w X i j x u N:=⟨λ_ a=>bB a List.not_mem_nil,λ_=>h⟩
def cX(β:Map)(w:World)(X:Nat->Prop)(l:Nat):E->Prop
  | .cells cs=> ∃(b:Nat) (h:Array Value) (ty:TypeId),β l=aa (aa b,0)/\w.heap[b]? =aa (.cells h ty (0,0))/\h.size=cs.length/\
      ∀(i:Nat) c u,cs[i]? =aa c->h[i]? =aa u->bq β w X c u
  | .arr ty gen k a=>1<=gen/\((β l=aa (aj,gen)/\a=[])\/ ∃(b:Nat) (h:Array Value),β l=aa (aa b,gen)/\w.heap[b]? =aa (.cells h ty (0,0))/\
      a.length*k<=h.size/\(∀e,e∈a->e.length=k)/\
      ∀(i j:Nat) (e:List T) (x:T) (u:Value),a[i]? =aa e->e[j]? =aa x->h[i*k+j]? =aa u->df w X x u)
  | .a7 o m gen a r=>1<=gen/\((β l=aa (aj,gen)/\a=[]/\(∀c,¬β.n l c))\/ ∃(b:Nat) (h:Array Value) (B:Nat->Nat->Nat->Prop),β l=aa (aa b,gen)/\
      w.heap[b]? =aa (.cells h (aU o m).ty (0,0))/\a.length*(aU o m).size<=h.size/\(∀e,e∈a->e.length=(aU o m).size)/\
      (∀(i j:Nat) (e:List T) (x:T) (u:Value),a[i]? =aa e->e[j]? =aa x->h[i*(aU o m).size+j]? =aa u->Cell o m r β w X i j x u (B i j))/\
      (∀i j c,B i j c->i<a.length/\j<(aU o m).size/\c≠b)/\(∀i j p q c,B i j c->B p q c->i=p/\j=q)/\ ∀c,β.n l c↔ ∃i j,B i j c)
theorem cX.mono{S:E}(h:cX β w X k S)(e:Ext X w w')(G: ∀b,b<w.heap.size->Z b->X b)
    (r:ed β β') (o: ∀x,β k=aa x->β' k=aa x) (s:Shaped β w w') (a: ∀b,At β k b->w'.heap[b]? =w.heap[b]?) (L: ∀b,β'.n k b↔β.n k b:=by exact λ_=>Iff.rfl):cX β' w' Z k S:=by
  cases S with
  |cells cs=>
    obtain⟨b,y,ty,l,p,z,A⟩:=h;exact⟨b,y,ty,o _ l,by rw[a b (.inl ⟨_,l⟩)];exact p,z,λi c u C W=>(A i c u C W).mono e G r s⟩
  |arr ty gen Q F=>
    refine⟨h.1,?_⟩;rcases h.2 with ⟨l,p⟩|⟨b,y,l,p,z,A,K⟩
    · exact .inl ⟨o _ l,p⟩
    · exact .inr ⟨b,y,o _ l,by rw[a b (.inl ⟨_,l⟩)];exact p,z,A,λi j q x u aN a2 a3=>(K i j q x u aN a2 a3).mono e G⟩
  |a7 D m gen F I=>
    refine⟨h.1,?_⟩;rcases h.2 with ⟨l,p,f⟩|⟨b,y,B,l,p,z,A,K,t,v,R⟩
    · exact .inl ⟨o _ l,p,λc C=>f c ((L c).1 C)⟩
    · refine .inr ⟨b,y,B,o _ l,by rw[a b (.inl ⟨_,l⟩)];exact p,z,A,λi j q x u aN a2 a3=>(K i j q x u aN a2 a3).mono e G r s λc C=>a c (.inr ((R c).2 ⟨i,j,C⟩)),t,v,λc=>(L c).trans (R c)⟩
def Map.put(a:Map)(d:Nat)(x:Option (Option Nat×Nat)):Map:=⟨λi=>bif b5 i d then x else a i,a.n⟩
theorem kp(a:Map)(d:Nat)(x:Option (Option Nat×Nat)):a.put d x d=x:=by simp[Map.put]
theorem fR(a:Map)(d i:Nat)(x:Option (Option Nat×Nat))(h:i≠d):a.put d x i=a i:=by
  have:b5 i d=ak:=by cases c:b5 i d with
    |false=>rfl
    |true=>exact bB (de c) h
  simp[Map.put,this]
def a8{k:Type}(f:Nat->k)(d:Nat)(v:k):Nat->k:=λi=>bif b5 i d then v else f i
theorem cd{k:Type}(f:Nat->k)(d:Nat)(v:k):a8 f d v d=v:=by simp[a8]
theorem cb{k:Type}(f:Nat->k)(d i:Nat)(v:k)(h:i≠d):a8 f d v i=f i:=by
  have:b5 i d=ak:=by cases a:b5 i d with
    |false=>rfl
    |true=>exact bB (de a) h
  simp[a8,this]
structure S where
  t:Nat->V
  H:Nat->Option E
  u:Nat->Bool
structure fL where
  zq:Nat
  W:World
def fL.ok(G:fL)(w:World):Prop:=G.zq<=w.heap.size/\ ∀b,b<G.zq->w.heap[b]? =G.W.heap[b]?
structure Ctx where
  P:Program
  G:fL
  w0:World
  X:Nat->Prop
  dV:Nat
  hb:Map
  nt:Nat
def Ctx.M(K:Ctx)(b:Nat):Prop:= ∃id,id<K.dV/\At K.hb id b
def own(K:Ctx)(β:Map)(H:Nat->Option E)(b:Nat):Prop:=K.X b\/ ∃id,H id≠aj/\At β id b
def lb(n:Nat)(a c:Map)(i:Nat):Prop:= ∀id,id<n->(c id=a id)\/ ∃q g e h,a id=aa (q,g)/\1<=g/\c id=aa (e,h)/\g<h/\ ∀b,e=aa b->q=aa b\/i<=b
theorem lb.refl(n:Nat)(β:Map)(sz:Nat):lb n β β sz:=λ_ _=> .inl rfl
theorem lb.keep{U T:Map}(h:lb n W U sz)(a: ∀id,id<n->T id=U id):lb n W T sz:=λid hid=>by rw[a id hid];exact h id hid
theorem lb.more{T U:Map}(h:lb n T U sz)(l: ∀id,id<n->(W id=U id)\/ ∃q g a i,U id=aa (q,g)/\1<=g/\W id=aa (a,i)/\g<i/\ ∀b,a=aa b->q=aa b\/sz<=b):lb n T W sz:=by
  intro id hid;rcases l id hid with e|⟨q,g,a,i,aN,a2,a3,a4,a5⟩
  · rw[e];exact h id hid
  · rcases h id hid with e|⟨m,o,x,y,p,r,k,z,s⟩
    · exact .inr ⟨q,g,a,i,by rw[<-e];exact aN,a2,a3,a4,a5⟩
    · rw[aN] at k;cases k;exact .inr ⟨m,o,a,i,p,r,a3,O,λb w=>by
        rcases a5 b w with c|c
        · exact s b c
        · exact .inr c⟩
theorem lb.grow{T U:Map}(h:lb n T U sz)(k gen:Nat)(q c:Option Nat)(l:U k=aa (q,gen))(r:1<=gen)(m:W k=aa (c,gen+1))(a: ∀b,c=aa b->q=aa b\/sz<=b)
    (s: ∀id,id≠k->W id=U id):lb n T W sz:=by
  intro id hid;by_cases o:id=k
  · subst o;rcases h id hid with e|⟨w,x,B,C,e,y,p,F,z⟩
    · exact .inr ⟨q,gen,c,gen+1,by rw[<-e];exact l,r,m,pF _,a⟩
    · rw[l] at p;cases p;exact .inr ⟨w,x,c,gen+1,e,y,m,O,λb A=>by
        rcases a b A with i|i
        · exact z b i
        · exact .inr i⟩
  · rw[s id o];exact h id hid
theorem Shaped.ext(h:Shaped W a w)(c:a.heap.size<=w.heap.size)(e:Ext (λ_=>False) w w'):Shaped W a w':=
  λb i=>(zm (e.keep b (mY i c) λh=>h)).trans (h b i)
structure Rel (K:Ctx) (β:Map) (s:S) (a:Act) (w:World):Prop where
  ext:Ext K.M K.w0 w
  rH:K.G.ok K.w0
  r6: ∀b,K.M b->K.G.zq<=b
  k9: ∀b,K.X b->b<K.w0.heap.size/\ ¬K.M b
  base:lb K.dV K.hb β K.w0.heap.size
  kA:Shaped K.hb K.w0 w
  low: ∀id,id<K.dV->s.u id=ab
  eF: ∀id,s.u id=ak->β id=aj
  e9: ∀id b,s.u id=ak-> ¬β.n id b
  wc: ∀id lZ b,At K.hb id b->At K.hb lZ b->id=lZ
  inj: ∀id lZ b,At β id b->At β lZ b->id=lZ
  fresh: ∀id b,At β id b->(K.M b\/K.w0.heap.size<=b)/\b<w.heap.size
  heap: ∀id e,s.H id=aa e->s.u id=ab/\cX β w (own K β s.H) id e
  dC: ∀i,bq β w (own K β s.H) (s.t i) (a.tmps.getD i undef)
  nt:a.tmps.size=K.nt
  defers:a.defers=[]
theorem Zi{G:fL}(h:G.ok w)(e:Ext X w w')(c: ∀b,X b->G.zq<=b):G.ok w':=
  ⟨iF h.1 e.size,λb a=>(e.keep b (mY a h.1) λi=>by have:=c b i;omega).trans (h.2 b a)⟩
variable {K:Ctx}
theorem Rel.Dr{s:S}{a:Act}(h:Rel K β s a w):K.G.ok w:=Zi h.rH h.ext h.r6
mutual
def V.ok(u:Nat->Bool):V->Bool
  | .ref id _=>u id
  | .bg id _ _ _ _=>u id
  | .cK id _ _ _ _=>u id
  | .agg cs=>hl u cs
  | .bM cs=>hl u cs
  | .fn _ cs=>hl u cs
  | .t _=>ab
  | .aS _=>ab
  | .dh=>ab
def hl(u:Nat->Bool):List V->Bool
  | []=>ab
  |c::cs=>V.ok u c&&hl u cs
end
theorem w1{u:Nat->Bool}: ∀{cs:List V} {i:Nat} {c:V},hl u cs=ab->cs[i]? =aa c->V.ok u c=ab
  | [],_,_,_,h=>by simp at h
  |c::cs,0,_,h,a=>by simp at a;subst a;simp[hl] at h;exact h.1
  |c::cs,i+1,_,h,a=>by simp at a;simp[hl] at h;exact w1 h.2 a
theorem bq.under{u:Nat->Bool}{x:V}(h:bq β w X x v)(B: ∀b,Z b->X b)
    (l: ∀id,u id=ab->β' id=β id) (p:x.ok u=ab):bq β' w Z x v:=by
  induction h with
  |t x v h=>exact .t x v (h.mono (Ext.refl _ _) λb _=>B b)
  |agg cs y k _ z=>exact .agg cs y k (λi c u o A=>z i c u o A (w1 (by simpa[V.ok] using p) o))
  |bM cs y k _ z=>exact .bM cs y k (λi c u o A=>z i c u o A (w1 (by simpa[V.ok] using p) o))
  |ref id e b n=>exact .ref id e b (by rw[l id (by simpa[V.ok] using p)];exact n)
  |aS cells b e f n C o K=>exact .aS cells b e f n (λh=>C (B _ h)) o (λj x h=>(K j x h).mono (Ext.refl _ _) λb _=>B b)
  |bg id gen a e s F b m ty r n L Q R k W=>exact .bg id gen a e s F b m ty r (by rw[l id (by simpa[V.ok] using p)];exact n) L Q R k W
  |iT id gen a r n=>exact .iT id gen a r (by rw[l id (by simpa[V.ok] using p)];exact n)
  |l3 id gen a e s v q g G n r=>exact .l3 id gen a e s v q g G (by rw[l id (by simpa[V.ok] using p)];exact n) r
  |cK id gen a i e b r n=>exact .cK id gen a i e b r (by rw[l id (by simpa[V.ok] using p)];exact n)
  |mz id gen a i e v q g G n r=>exact .mz id gen a i e v q g G (by rw[l id (by simpa[V.ok] using p)];exact n) r
  |fn f cs y k _ z=>exact .fn f cs y k (λi c u o A=>z i c u o A (w1 (by simpa[V.ok] using p) o))
  |dh v=>exact .dh v
def vw(u:Nat->Bool):List (Nat×Nat×V)->Bool
  | []=>ab
  |h::a=>h.2.2.ok u&&vw u a
theorem Hd{u:Nat->Bool}: ∀{a:List (Nat×Nat×V)} {i j:Nat} {v:V},vw u a=ab->(i,j,v)∈a->v.ok u=ab
  | [],_,_,_,_,h=>by cases h
  |h::a,i,j,v,c,hm=>by
    simp only[vw,b9] at c;rcases ez.1 hm with rfl|hm
    · exact c.1
    · exact Hd c.2 hm
def E.ok(u:Nat->Bool):E->Bool
  | .cells cs=>hl u cs
  | .arr _ _ _ _=>ab
  | .a7 _ _ _ _ a=>vw u a
def S.le(K:Ctx)(s s':S):Prop:= ∀β a w,Rel K β s a w-> ∃c,Rel K c s' a w
theorem S.le.refl(K:Ctx)(s:S):s.le K s:=λβ _ _ h=>⟨β,h⟩
theorem S.le.trans{a b c:S}(h:a.le K b)(k:b.le K c):a.le K c:=λβ x w i=>let ⟨e,l⟩:=h β x w i;k e x w l
def dN(v c:V):Prop:= ∀a w X u,bq a w X v u->bq a w X c u
theorem dN.refl(v:V):dN v v:=λ_ _ _ _ h=>h
theorem dN.of_eq{v ef:V}(h:v=ef):dN v ef:=h▸dN.refl v
theorem dN.nil:dN (.t .fT) (.t (.bE [])):=by intro β w X u h;cases h with|t _ _ h=>cases h;exact .t _ _ (.gX _ _)
theorem dN.dh(v:V):dN v .dh:=λ_ _ _ _ _=> .dh _
theorem dN.trans{a b c:V}(h:dN a b)(k:dN b c):dN a c:=λe w X u i=>k e w X u (h e w X u i)
def fU:List V->List V->Prop
  | [],[]=>True
  |v::c,e::a=>dN v e/\fU c a
  |_,_=>False
theorem fU.refl: ∀a:List V,fU a a
  | []=>trivial
  |v::a=>⟨dN.refl v,fU.refl a⟩
theorem fU.get: ∀{c a:List V},fU c a->c.length=a.length/\ ∀(i:Nat) e,a[i]? =aa e-> ∃v,c[i]? =aa v/\dN v e
  | [],[],_=>⟨rfl,λi e h=>by simp at h⟩
  |v::c,e::a,h=>by
    obtain⟨l,m⟩:=fU.get h.2;refine⟨by simp[l],λi x k=>?_⟩;cases i with
    |zero=>simp at k;subst k;exact⟨v,rfl,h.1⟩
    |succ i=>simp at k;exact m i x k
  | [],_::_,h=>h.elim
  |_::_,[],h=>h.elim
theorem dN.agg{e a:List V}(h:fU e a):dN (.agg e) (.agg a):=by
  intro s w X u k;obtain⟨x,l⟩:=h.get;cases k with
  |agg _ m y n=>exact .agg _ m O λi c u o p=>by obtain⟨v,q,r⟩:=l i c o;exact r _ _ _ _ (n i v u q p)
theorem dN.bM{e a:List V}(h:fU e a):dN (.bM e) (.bM a):=by
  intro s w X u k;obtain⟨x,l⟩:=h.get;cases k with
  |bM _ m y n=>exact .bM _ m O λi c u o p=>by obtain⟨v,q,r⟩:=l i c o;exact r _ _ _ _ (n i v u q p)
def kH(e a:E):Prop:=match e,a with
  | .cells cs,.cells c=>fU cs c
  |e,a=>e=a
theorem kH.refl(e:E):kH e e:=by cases e with
  |cells cs=>exact fU.refl cs
  |arr=>rfl
  |a7=>rfl
theorem kH.zH{e':E}(h:kH e e')(k:cX W w X n e):cX W w X n e':=by
  cases e with
  |cells cs=>
    cases e' with
    |cells o=>
      obtain⟨C,p⟩:=fU.get h;obtain⟨b,q,ty,r,s,F,x⟩:=k;exact⟨b,q,ty,r,s,O,λi c u y z=>by obtain⟨v,A,B⟩:=p i c y;exact B _ _ _ _ (x i v u A z)⟩
    |arr=>cases h
    |a7=>cases h
  |arr ty gen l a=>
    cases e' with
    |cells=>cases h
    |arr=>cases h;exact k
    |a7=>cases h
  |a7 G m gen a K=>
    cases e' with
    |cells=>cases h
    |arr=>cases h
    |a7=>cases h;exact k
def pY(t:Nat->V)(u:Nat->Bool)(a:Nat->V):Prop:= ∀i,a i= .dh\/(dN (t i) (a i)/\(a i).ok u=ab)
def mn(H:Nat->Option E)(u:Nat->Bool)(c:Nat->Option E):Prop:= ∀id e,c id=aa e->(∃a,H id=aa a/\kH a e)/\u id=ab/\e.ok u=ab
def u4(u a:Nat->Bool):Prop:= ∀id,a id=ab->u id=ab
def nG:Nat->(Nat->Bool)->Bool
  |0,_=>ab
  |n+1,u=>u n&&nG n u
theorem F0{u:Nat->Bool}: ∀{n:Nat},nG n u=ab-> ∀id,id<n->u id=ab
  |0,_,_,h=>bB h (q6 _)
  |n+1,h,id,hid=>by
    simp[nG] at h;by_cases e:id=n
    · subst e;exact h.1
    · exact F0 h.2 id O
def q0:Nat->V:=λ_=> .dh
def pR:Nat->Option E:=λ_=>aj
def hh:Nat->Bool:=λ_=>ak
theorem pY.nil(t:Nat->V)(u:Nat->Bool):pY t u q0:=λ_=> .inl rfl
theorem pY.a8{t:Nat->V}{u:Nat->Bool}{r:Nat->V}{d:Nat}{v:V}(h:dN (t d) v)(c:v.ok u=ab)(e:pY t u r):pY t u (Lift.a8 r d v):=by
  intro i;by_cases a:i=d
  · subst a;rw[cd];exact .inr ⟨h,c⟩
  · rw[cb _ _ _ _ a];exact e i
theorem mn.nil(H:Nat->Option E)(u:Nat->Bool):mn H u pR:=λ_ _ h=>by simp[pR] at h
theorem mn.a8{H:Nat->Option E}{u:Nat->Bool}{r:Nat->Option E}{d:Nat}(c:E)(h:H d=aa c)(l:kH c e)(m:u d=ab)(n:e.ok u=ab)(o:mn H u r):mn H u (Lift.a8 r d (aa e)):=by
  intro i e' a;by_cases k:i=d
  · subst k;rw[cd] at a;cases a;exact⟨⟨c,h,l⟩,m,n⟩
  · rw[cb _ _ _ _ k] at a;exact o i e' a
theorem u4.nil(u:Nat->Bool):u4 u hh:=λ_ h=>by simp[hh] at h
theorem u4.a8{u r:Nat->Bool}{d:Nat}(h:u d=ab)(e:u4 u r):u4 u (Lift.a8 r d ab):=by
  intro i a;by_cases c:i=d
  · subst c;exact h
  · rw[cb _ _ _ _ c] at a;exact e i a
theorem cX.under{u:Nat->Bool}(h:cX β w X k e)(C: ∀b,Z b->X b)
    (a: ∀k,u k=ab->β' k=β k) (l:u k=ab) (K:e.ok u=ab) (L: ∀b,β'.n k b↔β.n k b:=by exact λ_=>Iff.rfl):cX β' w Z k e:=by
  cases e with
  |cells cs=>
    obtain⟨b,r,ty,p,q,s,y⟩:=h;exact⟨b,r,ty,by rw[a k l];exact p,q,s,λi c u F R=>(y i c u F R).under C a (w1 K F)⟩
  |arr ty gen Q z=>
    refine⟨h.1,?_⟩;rcases h.2 with ⟨p,q⟩|⟨b,r,p,q,s,y,A⟩
    · exact .inl ⟨by rw[a k l];exact p,q⟩
    · exact .inr ⟨b,r,by rw[a k l];exact p,q,s,y,λi j o x u aN a2 a3=>(A i j o x u aN a2 a3).mono (Ext.refl _ _) λb _=>C b⟩
  |a7 M m gen z N=>
    refine⟨h.1,?_⟩;rcases h.2 with ⟨p,q,W⟩|⟨b,r,B,p,q,s,y,A,f,t,D⟩
    · exact .inl ⟨by rw[a k l];exact p,q,λc F=>W c ((L c).1 F)⟩
    · refine .inr ⟨b,r,B,by rw[a k l];exact p,q,s,y,λi j o x u aN a2 a3=>⟨λv G=>⟨((A i j o x u aN a2 a3).1 v G).1.under C a (Hd K G),((A i j o x u aN a2 a3).1 v G).2⟩,
        λI=>((A i j o x u aN a2 a3).2 I).mono (Ext.refl _ _) (λb _=>C b) λ_ _=>rfl⟩,f,t,λc=>(L c).trans (D c)⟩
def cut(β:Map)(u:Nat->Bool):Map:=⟨λid=>bif u id then β id else aj,λid b=>u id=ab/\β.n id b⟩
theorem CP{u:Nat->Bool}{b:Nat}(h:At (cut W u) i b):At W i b:=by
  rcases h with ⟨g,h⟩|h
  · refine .inl ⟨g,?_⟩;by_cases a:u i=ab
    · simpa[cut,a] using h
    · simp[cut,a] at h
  · exact .inr h.2
theorem ym{u:Nat->Bool}{id:Nat}(h:u id=ab):cut W u id=W id:=by simp[cut,h]
theorem F2{s s':S}(c:mn s.H s'.u s'.H): ∀b,own K (cut β s'.u) s'.H b->own K β s.H b:=by
  rintro b (h|⟨id,i,k⟩)
  · exact .inl h
  · cases a:s'.H id with
    |none=>exact bB a i
    |some e=>
      obtain⟨m,l,_⟩:=(c id e a).1;exact .inr ⟨id,by rw[l];simp,CP k⟩
theorem Rel.cut{s s':S}{a:Act}(l:Rel K β s a w)(q:pY s.t s'.u s'.t)(p:mn s.H s'.u s'.H)(n:nG K.dV s'.u=ab):Rel K (cut β s'.u) s' a w:=by
  have c:=F2 (K:=K) (β:=β) p;refine {l with base:= ?_,low:=F0 n,eF:= ?_,e9:= ?_,inj:= ?_,fresh:= ?_,heap:= ?_,dC:= ?_}
  · exact l.base.keep λid hid=>ym (F0 n id hid)
  · intro id hid;simp[Lift.cut,hid]
  · intro id b hid h;rw[h.1] at hid;cases hid
  · intro id o b m k;exact l.inj id o b (CP m) (CP k)
  · intro id b h;exact l.fresh id b (CP h)
  · intro id e r;obtain⟨⟨x,m,n⟩,k,y⟩:=p id e r;exact⟨k,(n.zH (l.heap id x m).2).under c (λ_ h=>ym h) k y λ_=>⟨λh=>h.2,λh=>⟨k,h⟩⟩⟩
  · intro i;rcases q i with h|⟨m,k⟩
    · rw[h];exact .dh _
    · exact(m _ _ _ _ (l.dC i)).under c (λ_ h=>ym h) k
theorem ae8{s s':S}(a:pY s.t s'.u s'.t)(c:mn s.H s'.u s'.H)(_hu:u4 s.u s'.u)(e:nG K.dV s'.u=ab):s.le K s':=
  λh _ _ i=>⟨Lift.cut h s'.u,i.cut a c e⟩
def B8:Value->V
  | .bool b=> .t (.bool b)
  | .int k n=> .t (.int k n)
  | .string s=> .t (.str s.data.toList)
  | .slice aj 0 0=> .t .fT
  | .pointer aj=> .t .iA
  | .nilIface=> .t .hn
  | .nilFunc=> .t .oC
  |_=> .dh
def hX:Value->V
  | .agg cs=> .agg (cs.toList.map B8)
  |v=>B8 v
def S.get(s:S):Operand->V
  | .tmp t=>s.t t
  | .const v=>hX v
  | .func f=> .fn f []
  | .global _=> .dh
theorem MI(a:Map)(w:World)(X:Nat->Prop)(v:Value):bq a w X (B8 v) v:=by
  unfold B8;split
  · exact .t _ _ (.bool _)
  · exact .t _ _ (.int _ _)
  · rename_i s;have h:=df.str (w:=w) (X:=X) s.data.toList;exact .t _ _ (by simpa using h)
  · exact .t _ _ .fT
  · exact .t _ _ .iA
  · exact .t _ _ .hn
  · exact .t _ _ .oC
  · exact .dh _
theorem zX(β:Map)(w:World)(X:Nat->Prop)(v:Value):bq β w X (hX v) v:=by
  unfold hX;split
  · rename_i cs;exact .agg _ _ aX (λi c u a h=>by
      simp only[List.getElem?_map,Array.getElem?_toList,Option.map_eq_some_iff] at a;obtain⟨l,e,k⟩:=a;rw[h] at e;cases e;rw[<-k];exact MI _ _ _ _)
  · exact MI _ _ _ _
def dH(β:Map)(w:World)(X:Nat->Prop):List V->List Value->Prop
  | [],[]=>True
  |v::a,u::c=>bq β w X v u/\dH β w X a c
  |_,_=>False
theorem dH.mono{β β':Map}{w w':World}{X Z:Nat->Prop}: ∀{c:List V} {i:List Value},dH β w X c i->Ext X w w'->(∀b,b<w.heap.size->Z b->X b)->
    ed β β'->Shaped β w w'->dH β' w' Z c i
  | [],[],_,_,_,_,_=>trivial
  |_::_,_::_,h,e,k,a,l=>⟨h.1.mono e k a l,dH.mono h.2 e k a l⟩
  | [],_::_,h,_,_,_,_=>h.elim
  |_::_,[],h,_,_,_,_=>h.elim
theorem dH.le: ∀{β:Map} {w:World} {X:Nat->Prop} {c a:List V} {e:List Value},dH β w X c e->fU c a->dH β w X a e
  |_,_,_,[],[],[],_,_=>trivial
  |_,_,_,_::_,_::_,_::_,h,k=>⟨k.1 _ _ _ _ h.1,dH.le h.2 k.2⟩
  |_,_,_,[],_::_,_,_,k=>k.elim
  |_,_,_,_::_,[],_,_,k=>k.elim
  |_,_,_,[],[],_::_,h,_=>h.elim
  |_,_,_,_::_,_::_,[],h,_=>h.elim
theorem Rel.get{s:S}{a:Act}(h:Rel K β s a w)(x:Operand):bq β w (own K β s.H) (s.get x) (a.eval x):=by
  cases x with
  |tmp t=>exact h.dC t
  |const v=>exact zX _ _ _ v
  |func f=>exact .fn f [] #[] rfl (λi c u e _=>by simp at e)
  |global g=>exact .dh _
theorem Rel.pd{s:S}{a:Act}(h:Rel K β s a w): ∀c:List Operand,dH β w (own K β s.H) (c.map s.get) (c.map a.eval)
  | []=>trivial
  |x::c=>⟨h.get x,h.pd c⟩
def cc(P:Program)(H:Nat->Option E)(o:Oper)(a:List V)(v:V):Prop:=
  ∀(c:Map) (w:World) (X:Nat->Prop) (h:Operand->Value),(∀id e,H id=aa e->cX c w X id e)->
    dH c w X a (o.op.operands.toList.map h)-> ∃u,(execOp h o).run P w= .ok (.value u) w/\bq c w X v u
def ej(K:Ctx)(o:Oper)(s i:S):Prop:=
  ∀k a w next Q,Rel K k s a w->(∀c e h,Rel K c i e h->next e h)->o.wp K.P a w next Q
def S.put(s:S)(d:Option Tmp)(v:V):S:=match d with
  |some d=>{s with t:=a8 s.t d v}
  |none=>s
theorem Rel.put{s:S}{a:Act}(h:Rel K β s a w)(d:Option Tmp)(k: ∀i,d=aa i->dt i K.nt=ab){v:V}(l:bq β w (own K β s.H) v u):
    Rel K β (s.put d v) (a.put d u) w:=by
  cases d with
  |none=>exact h
  |some d=>
    have c:d<a.tmps.size:=by rw[h.nt];have:=k d rfl;simpa[Nat.blt_eq] using this
    refine {h with dC:= ?_,nt:= ?_}
    · intro i;simp only[Act.put,S.put];by_cases e:i=d
      · subst e;rw[cd];simp only[Array.getD_eq_getD_getElem?,Array.getElem?_setIfInBounds_self_of_lt c,Option.getD_some];exact l
      · rw[cb _ _ _ _ e];simp only[Array.getD_eq_getD_getElem?,Array.getElem?_setIfInBounds_ne (Ne.symm e)]
        have:=h.dC i;simpa only[Array.getD_eq_getD_getElem?] using this
    · simpa[Act.put] using h.nt
theorem Xz{o:Oper}{s:S}{vals:List V}{v:V}(m: ∀i,o.dst=aa i->dt i K.nt=ab)(n:fU (o.op.operands.toList.map s.get) vals)(h:cc K.P s.H o vals v):
    ej K o s (s.put o.dst v):=by
  intro k a w next Q l p
  obtain⟨u,c,q⟩:=h k w (own K k s.H) a.eval (λid e r=>(l.heap id e r).2) ((l.pd _).le n);unfold Oper.wp;rw[c];exact p k _ w (l.put o.dst m q)
section oV
variable {P:Program}{H:Nat->Option E}{d:Option Tmp}{ty:TypeId}{pos:String}{af:Array Edge}{g:Option (Nat×Bool)}
theorem aeN(x:Operand)(v:V):cc P H ⟨d,.move x,ty,pos,af,g⟩ [v] v:=by intro e w X a _ c;exact⟨a x,rfl,c.1⟩
theorem abS(x:Operand)(v:V):cc P H ⟨d,.assign x,ty,pos,af,g⟩ [v] v:=by intro e w X a _ c;exact⟨a x,rfl,c.1⟩
theorem oB{b:Bool}(h:bq W w X (.t (.bool b)) u):u= .bool b:=by cases h with|t _ _ h=>cases h with|bool=>rfl
theorem dP{k:IntKind}{n:Int}(h:bq W w X (.t (.int k n)) u):u= .int k n:=by cases h with|t _ _ h=>cases h with|int=>rfl
theorem iu{l:List UInt8}(h:bq W w X (.t (.str l)) u):u= .string ⟨l.toArray⟩:=by cases h with|t _ _ h=>cases h with|str=>rfl
theorem XB(c x y:Operand)(v e:V):cc P H ⟨d,.pick c x y,ty,pos,af,g⟩ [.t (.bool ab),v,e] v:=by
  intro i w X h _ a;refine⟨h x,?_,a.2.1⟩
  have:=oB a.1;simp[execOp,this,asBool]
theorem Xp(c x y:Operand)(v ef:V):cc P H ⟨d,.pick c x y,ty,pos,af,g⟩ [.t (.bool ak),v,ef] ef:=by
  intro h w X e _ a;refine⟨e y,?_,a.2.2.1⟩
  have:=oB a.1;simp[execOp,this,asBool]
theorem af9(x y:Operand)(t c:TypeId)(k:IntKind)(m n:Int):cc P H ⟨d,.binOp .add t x y c,ty,pos,af,g⟩ [.t (.int k m),.t (.int k n)] (.t (.int k (k.wrap (m+n)))):=by intro e w X h _ a;refine⟨.int k (k.wrap (m+n)),?_,.t _ _ (.int _ _)⟩;simp[execOp,dP a.1,dP a.2.1,eqGuard,binOp,Op.intArith]
end oV
end
section
def cU(K:Ctx)(c:Code)(s:S)(Q:Exit->S->Prop):Prop:=
  ∀m a w h,Rel K m s a w->(∀e i d k l,Q e i->Rel K d i k l->h e k l)->c.wp K.P h a w
def rv(K:Ctx)(c:Array Oper)(l:List Oper)(s:S)(Q:S->Prop):Prop:=
  ∀m a w e,Rel K m s a w->(∀h d i k,Q h->Rel K d h i k->e .normal i k)->wpList K.P c e l a w
def rA(next:S->Prop)(Q:Exit->S->Prop):Exit->S->Prop
  | .normal,s=>next s
  |e,s=>Q e s
def yv(c:Nat)(Q:Exit->S->Prop):Exit->S->Prop
  | .exit a,s=>bif b5 a c then Q .normal s else Q (.exit a) s
  |e,s=>Q e s
def C3(a:S->Prop)(Q:Exit->S->Prop):Exit->S->Prop
  | .normal,s=>a s
  |e,s=>Q e s
variable {P:Program}{c x y:Code}{a:Act}{w:World}{b:Bool}{i t:Nat}{β:Map}{X:Nat->Prop}
theorem Xc{R:Type}{Q:Exit->Act->World->Prop}(F:R->Act->World->Prop)(ng :R->Nat)(x:R)(L:F x a w)
    (p: ∀x a w,F x a w->c.wp P (Exit.then (λz w'=> ∃y,F y z w'/\ ng y< ng x) Q) a w):(Code.loop c).wp P Q a w:=by
  intro b k cs;have G: ∀n x a w,ng x=n->F x a w->
      ∃e z w',Q e z w'/\Arrives P (lone (b.at a (.code c:: .inLoop c::k)) cs w) b k cs e z w':=by
    intro n;induction n using Nat.strongRecOn with
    |_ n W=>
      intro x a w X Z;obtain⟨e,h,i,o,d⟩:=p x a w Z b (.inLoop c::k) cs;cases e with
      |normal=>
        obtain⟨y,q,H⟩:=o;obtain⟨A,B,C,r,m⟩:=W (ng y) (X▸H) y h i rfl q;exact⟨A,B,C,r,.of_steps (Steps.trans d (.one step_inLoop)) m⟩
      |exit id=>exact⟨_,h,i,o,.pass (x:= .inLoop c) rfl (λ_ _=> .inl aX) d⟩
      |goto l=>exact⟨_,h,i,o,.pass (x:= .inLoop c) rfl (λ_ _=> .inl aX) d⟩
      |ret=>exact⟨_,h,i,o,.pass (x:= .inLoop c) rfl (λ_ _=> .inl aX) d⟩
      |panic f=>exact⟨_,h,i,o,.pass (x:= .inLoop c) rfl (λ_ _=> .inl aX) d⟩
      |outgrown=>exact⟨_,h,i,o,.pass (x:= .inLoop c) rfl (λ_ _=> .inl aX) d⟩
  obtain⟨e,z,w',o,d⟩:=G _ x a w rfl L;exact⟨e,z,w',o,.of_steps (.one step_loop) d⟩
section rules
variable {K:Ctx}{s:S}{Q:Exit->S->Prop}
theorem xz{E:Exit->S->Prop}(h:cU K c s Q)(k: ∀e s,Q e s->E e s):cU K c s E:=
  λl a w m n o=>h l a w m n λe i d p x q r=>o e i d p x (k e i q) r
theorem wJ{b:S}(i:s.le K b)(h:cU K c b Q):cU K c s Q:=
  λk a w l m n=>let ⟨d,e⟩:=i k a w m;h d a w l e n
theorem Cs(h:cU K x s (rA (λn=>cU K y n Q) Q)):cU K (.seq x y) s Q:=by
  intro o a w p q i;refine wp_seq (h o a w _ q ?_);intro e A m r z k d;cases e with
  |normal=>exact k m r z p d i
  |exit id=>exact i _ _ _ _ _ k d
  |goto l=>exact i _ _ _ _ _ k d
  |ret=>exact i _ _ _ _ _ k d
  |panic c=>exact i _ _ _ _ _ k d
  |outgrown=>exact i _ _ _ _ _ k d
theorem abW(h:Q .normal s):cU K .skip s Q:=λc a w _ d e=>wp_skip (e _ _ c a w h d)
theorem adR(h:Q .ret s):cU K .ret s Q:=λc a w _ d e=>wp_ret (e _ _ c a w h d)
theorem abY(h:Q (.exit i) s):cU K (.exit i) s Q:=λc a w _ d e=>wp_exit (e _ _ c a w h d)
theorem kT{c:Operand}(l:s.get c= .t (.bool b))(m:b=ab->cU K x s Q)(n:b=ak->cU K y s Q):cU K (.cond c x y) s Q:=by
  intro e a w i d k;have h:=d.get c;rw[l] at h;have bb:=oB h;cases b with
  |true=>exact wp_cond_true bb (m rfl e a w i d k)
  |false=>exact wp_cond_false bb (n rfl e a w i d k)
theorem aas(h:cU K c s (yv i Q)):cU K (.block i c) s Q:=by
  intro o a w x p n;refine wp_block (h o a w _ p ?_);intro e y q z A m d;cases e with
  |exit k=>
    by_cases hid:k=i
    · subst hid;simp only[yv,Exit.inBlock,if_true] at*;rw[show b5 k k=ab by simp,cond_true] at m;exact n _ _ _ _ _ m d
    · simp only[yv,Exit.inBlock] at*;rw[aP hid];rw[show b5 k i=ak from by cases r:b5 k i with
        |false=>rfl
        |true=>exact bB (de r) hid,cond_false] at m
      exact n _ _ _ _ _ m d
  |normal=>exact n _ _ _ _ _ m d
  |goto l=>exact n _ _ _ _ _ m d
  |ret=>exact n _ _ _ _ _ m d
  |panic c=>exact n _ _ _ _ _ m d
  |outgrown=>exact n _ _ _ _ _ m d
theorem abX{ι:Type}(o:ι->S)(p:ι->Prop)(ng :ι->Nat)(x:ι)(W:p x)(X:s.le K (o x))
    (h: ∀x,p x->cU K c (o x) (C3 (λR=> ∃y,p y/\ ng y< ng x/\R.le K (o y)) Q)):cU K (.loop c) s Q:=by
  intro Z a w u b m;obtain⟨i,q⟩:=X Z a w b;refine Xc (λy f g=>p y/\ ∃i,Rel K i (o y) f g) ng x ⟨W,i,q⟩ ?_;intro y aN j ⟨r,A,B⟩;refine h y r A aN j _ B ?_;intro e R C a2 t k d;cases e with
  |normal=>
    obtain⟨z,F,G,n⟩:=k;obtain⟨H,L⟩:=n C a2 t d;exact⟨z,⟨F,H,L⟩,G⟩
  |exit id=>exact m _ _ _ _ _ k d
  |goto l=>exact m _ _ _ _ _ k d
  |ret=>exact m _ _ _ _ _ k d
  |panic c=>exact m _ _ _ _ _ k d
  |outgrown=>exact m _ _ _ _ _ k d
theorem abZ{V:Array Oper}{Q:S->Prop}(h:Q s):rv K V [] s Q:=λc a w _ d e=>e s c a w h d
theorem Rel.bool(i:Rel K β s a w)(h:s.t t= .t (.bool b)):a.tmps[t]? =aa (.bool b):=by
  have d:=i.dC t;rw[h] at d;have c:=oB d;rw[su] at c;cases e:a.tmps[t]? with
  |none=>rw[e] at c;simp[undef] at c
  |some x=>rw[e] at c;simp at c;rw[c]
theorem OT{W:Map}:bq W w X (.bM []) undef:= .bM [] #[] rfl λi c u h _=>by simp at h
theorem Rel.ake(e:Rel K β s a w){ops:Array Oper}{j:Nat}{want:Bool}(m:(ops[j]?).bind (·.dst)=aa t)(h:s.t t= .bM []):yielded ops a.tmps j≠aa want:=by
  have c:=e.dC t;rw[h] at c;have d:a.tmps.getD t undef= .tuple #[]:=by
    generalize a.tmps.getD t undef=y at c;cases c with
    |bM _ i k _=>
      have:i= #[]:=by simpa using k
      rw[this]
  have n: ∀b,a.tmps[t]? ≠aa (.bool b):=by
    intro b l;rw[su,l] at d;simp at d
  unfold yielded
  grind
def ia:Map:=⟨λ_=>aj,λ_ _=>False⟩
theorem He{b:Nat}(h:At ia i b):False:=by
  rcases h with ⟨_,h⟩|h
  · simp[ia] at h
  · exact h
def F4(P:Program)(G:fL)(f:FuncId)(args:List V)(r:V):Prop:=
  ∀(w:World) (X:Nat->Prop) (a:List Value),G.ok w->(∀b,X b->b<w.heap.size)->dH ia w X args a->
    Calls P f a.toArray w λe c=> ∃u,e= .returned u/\Ext (λ_=>False) w c/\bq ia c X r u
theorem bq.any{Z:Nat->Prop}{x:V}{v:Value}(h:bq ia w X x v)(a: ∀b,Z b->X b):bq β w Z x v:=
  h.mono (Ext.refl _ _) (λb _=>a b) (λ_ _ _ h=>by simp[ia] at h) (Shaped.refl _ _)
theorem dH.Ko: ∀{β:Map} {w:World} {X:Nat->Prop} {a:List V} {d:List Value},dH β w X a d->hl hh a=ab->dH ia w X a d
  |_,_,_,[],[],_,_=>trivial
  |_,_,_,_::_,_::_,h,c=>by
    simp[hl] at c;exact⟨h.1.under (u:=hh) (λ_ h=>h) (λ_ h=>by simp[hh] at h) c.1,dH.Ko h.2 c.2⟩
  |_,_,_,[],_::_,h,_=>h.elim
  |_,_,_,_::_,[],h,_=>h.elim
theorem Rel.grow{w':World}(h:Rel K β s a w)(e:Ext (λ_=>False) w w'):Rel K β s a w':=by
  have c:Ext (own K β s.H) w w':=e.weaken λ_ _ h=>h.elim;refine {h with ext:=h.ext.trans (e.weaken λ_ _ h=>h.elim),kA:=h.kA.ext h.ext.size e,fresh:= ?_,heap:= ?_,dC:= ?_}
  · intro id b d;exact⟨(h.fresh id b d).1,mY (h.fresh id b d).2 e.size⟩
  · intro id k l;obtain⟨m,n⟩:=h.heap id k l;exact⟨m,n.mono c (λ_ _ h=>h) (ed.refl _) (λ_ h=>h) (tV e) λb d=>e.keep b (h.fresh id b d).2 λh=>h⟩
  · intro i;exact(h.dC i).mono c (λ_ _ h=>h) (ed.refl _) (tV e)
theorem ej.call{o:Oper}{f:FuncId}{d:Func}{c:Array Operand}{k:Array TypeId}{vals:List V}{r:V}
    (A:o.op= .call {callee:= .value (.func f),args:=c,argTypes:=k}) (B:K.P.funcs[f]? =aa d) (C:(d.name== "runtime.NumGoroutine")=ak) (q:d.body.isNone=ak)
    (F: ∀i,o.dst=aa i->dt i K.nt=ab) (L:fU (c.toList.map s.get) vals) (R:hl hh vals=ab) (h:F4 K.P K.G f vals r):ej K o s (s.put o.dst r):=by
  intro x a w next Q m W
  have y:d.name≠ "runtime.NumGoroutine" :=by simpa using C
  have z:d.body≠aj:=by intro e;simp[e] at q
  have n:(execOp a.eval o).run K.P w= .ok (.enter f (c.map a.eval)) w:=by
    simp[execOp,A,resolve,Deferred.ofValue,Act.eval,invoke,callFunc,B,y,z]
  unfold Oper.wp;rw[n,Oper.upon_enter];have l:=(dH.le (m.pd c.toList) L).Ko R;have X: ∀b,own K x s.H b->b<w.heap.size:=by
    rintro b (Z|⟨id,_,q⟩)
    · exact mY (m.k9 b Z).1 m.ext.size
    · exact(m.fresh id b q).2
  have bT:=h w (own K x s.H) _ m.Dr X l;have g:(List.map a.eval c.toList).toArray=c.map a.eval:=by rw[<-w3]
  rw[g] at bT;refine bT.mono ?_;rintro e j ⟨u,rfl,p,t⟩;exact W x _ j ((m.grow p).put o.dst F (t.any λ_ h=>h))
def uZ:List V->Nat->(Nat->V)
  | [],_=>q0
  |v::a,i=>a8 (uZ a (i+1)) i v
theorem FM{W:Map}{w:World}{X:Nat->Prop}: ∀(a:List V) (c:List Value) (i:Nat),dH W w X a c-> ∀j,bq W w X (uZ a i (i+j)) (c.getD j undef)
  | [],_,_,_,_=> .dh _
  |v::a,u::c,i,h,0=>by
    rw[sw,uZ,cd];exact h.1
  |v::a,u::c,i,h,j+1=>by
    rw[uZ,cb _ _ _ _ O,show i+(j+1)=(i+1)+j by omega];simpa using FM a c (i+1) h.2 j
  |_::_,[],_,h,_=>h.elim
theorem dH.length: ∀{β:Map} {w:World} {X:Nat->Prop} {vs:List V} {a:List Value},dH β w X vs a->a.length=vs.length
  |_,_,_,[],[],_=>rfl
  |_,_,_,_::_,_::_,h=>by simp[dH.length h.2]
  |_,_,_,[],_::_,h=>h.elim
  |_,_,_,_::_,[],h=>h.elim
def Ctx.pure(P:Program)(G:fL)(w:World)(X:Nat->Prop)(nt:Nat):Ctx:={P,G,w0:=w,X,dV:=0,hb:=ia,nt}
def start(args:List V):S:={t:=uZ args 0,H:=pR,u:=hh}
theorem Rel.start{G:fL}{nt:Nat}{args:List V}{a:List Value}(e:G.ok w)(k: ∀b,X b->b<w.heap.size)(h:dH ia w X args a)(n:a.length<=nt):
    Rel (Ctx.pure P G w X nt) ia (Lift.start args) {tmps:=a.toArray++Array.replicate (nt-a.toArray.size) undef,defers:=[]} w:=by
  have d: ∀b,¬(Ctx.pure P G w X nt).M b:=by rintro b ⟨id,h,_⟩;simp[Ctx.pure] at h
  refine {ext:=Ext.refl _ _,rH:=e,r6:=λb h=>bB h (d b),k9:=λb h=>⟨k b h,d b⟩,base:=lb.refl _ _ _,kA:=Shaped.refl _ _,low:=λ_ h=>bB h (q6 _),eF:=λ_ _=>rfl,
           e9:=λ_ _ _ h=>h,wc:=λ_ _ _ h=>(He h).elim,inj:=λ_ _ _ h=>(He h).elim,fresh:=λ_ _ h=>(He h).elim,heap:=λ_ _ h=>by simp[Lift.start,pR] at h,dC:= ?_,nt:= ?_,defers:=rfl}
  · intro i;have c:=FM args a 0 h i;rw[dQ] at c;have l:(a.toArray++Array.replicate (nt-a.toArray.size) undef).getD i undef=a.getD i undef:=by
      simp only[Array.getD_eq_getD_getElem?,List.getD_eq_getElem?_getD,Array.getElem?_append]
      grind
    simp only[l];refine c.mono (Ext.refl _ _) ?_ (ed.refl _) (Shaped.refl _ _);rintro b _ (m|⟨id,c,_⟩)
    · exact m
    · simp[Lift.start,pR] at c
  · simp[Ctx.pure];omega
end rules
end
set_option linter.unusedVariables false
set_option linter.unusedSimpArgs false
section
def ct(P:Program)(t:TypeId)(u:TypeDesc)(z:Value)(c a:Nat):Prop:=
 P.underlying t=aa u/\ ∃i,P.info? t=aa i/\i.zero=aa z/\i.size=c/\i.bytes=a
variable {n b i L gen k:Nat}{a:Act}{v:V}{W β:Map}{X:Nat->Prop}{q:Option Nat}
theorem ct.of{P:Program}{t:TypeId}{u:TypeDesc}{z:Value}{bytes:Nat}(h:P.underlying t=aa u)(a:(P.info? t).map (λi=>(i.zero,i.size,i.bytes))=aa (aa z,n,bytes)):ct P t u z n bytes:=by
 cases c:P.info? t with
 |none=>rw[c] at a;cases a
 |some i=>
  rw[c] at a;simp only[hv,Option.some.injEq,Prod.mk.injEq] at a;exact⟨h,i,c,a.1,a.2.1,a.2.2⟩
def ll:TypeDesc->Bool
 | .struct _=>ab
 | .array _ _=>ab
 |_=>ak
section runs
variable {P:Program}{t:TypeId}{u:TypeDesc}{z:Value}{size bytes:Nat}(w:World)
theorem ct.Ev(h:ct P t u z size bytes):(isAgg t).run P w= .ok (ll u) w:=by obtain⟨a,_⟩:=h;simp only[isAgg,fx,run_underlying a,fu];cases u<;>rfl
theorem ct.run_sizeOf(h:ct P t u z size bytes):(sizeOf t).run P w= .ok size w:=by obtain⟨_,i,a,e,c,k⟩:=h;simp[sizeOf,typeInfo,a,c]
theorem ct.uu(h:ct P t u z size bytes):(zeroValue t).run P w= .ok z w:=by obtain⟨_,i,a,c,e,k⟩:=h;simp[zeroValue,typeInfo,a,c]
theorem ct.Ew(h:ct P t u z size bytes)(c:ll u=ak){a:Addr}{v:Value}(e:w.cell? a=aa v):(loadVar t a).run P w= .ok v w:=by simp only[loadVar,fx,h.Ev,fu,c];simp[e]
theorem kU(b o i:Nat):(⟨b,o,aj⟩:Addr).add i=⟨b,o+i,aj⟩:=by unfold Addr.add;split<;>simp_all
theorem ct.Ex(h:ct P t u z size bytes)(a:ll u=ab){o:Nat}{f:Nat->Value}(c: ∀j,j<size->w.cell? ⟨b,o+j,aj⟩=aa (f j)):
  (loadVar t ⟨b,o,aj⟩).run P w= .ok (.agg ((List.range size).map f).toArray) w:=by simp only[loadVar,fx,h.Ev,h.run_sizeOf,fu,a,if_true];rw[run_loadCells w ⟨b,o,aj⟩ size f λj e=>by rw[kU];exact c j e];rfl
end runs
section oV
variable {P:Program}{H:Nat->Option E}{d:Option Tmp}{ty:TypeId}{pos:String}{af:Array Edge}{g:Option (Nat×Bool)}
variable {t:TypeId}{u:TypeDesc}{z:Value}{size bytes:Nat}
theorem sM{w:World}{u:Value}(h:bq W w X (.ref n i) u): ∃b,W n=aa (aa b,0)/\u= .pointer (aa ⟨b,i,aj⟩):=by cases h with|ref _ _ b a=>exact⟨b,a,rfl⟩
theorem qO{w:World}{u:Value}(h:bq W w X (.cK L gen n i k) u)(a:W L=aa (q,gen)): ∃b,q=aa b/\u= .pointer (aa ⟨b,i*n+k,aj⟩):=by
 cases h with
 |cK _ _ _ _ _ b e c=>rw[c] at a;cases a;exact⟨b,rfl,rfl⟩
 |mz _ _ _ _ _ _ l g m c e=>rw[c] at a;cases a;omega
theorem l8{w:World}{c:TypeId}{a:List (List T)}(h:cX W w X n (.arr c gen i a)): ∃q,W n=aa (q,gen):=by
 rcases h.2 with ⟨e,_⟩|⟨b,k,e,_⟩
 ·exact⟨_,e⟩
 exact⟨_,e⟩
theorem IB{w:World}{a:List T}{u:Value}(h:bq W w X (.aS a) u): ∃(b c:Nat) (f:Nat->Value),u= .pointer (aa ⟨b,c,aj⟩)/\b<w.heap.size/\ ¬X b/\
  (∀j,j<a.length->w.cell? ⟨b,c+j,aj⟩=aa (f j))/\ ∀(j:Nat) (x:T),a[j]? =aa x->df w X x (f j):=by cases h with|aS _ b c f e i k l=>exact⟨b,c,f,rfl,e,i,k,l⟩
theorem adO(x:Operand)(i a:Nat)(k:List V)(c:V)(p:ct P t u z size bytes)(q:ll u=ak)(r:H i=aa (.cells k))(m:k[a]? =aa c):
  cc P H ⟨d,.load t x,ty,pos,af,g⟩ [.ref i a] c:=by
 intro Q w X R y A;obtain⟨b,B,C⟩:=sM A.1;obtain⟨W,l,F,n,G,o,L⟩:=y i _ r;rw[B] at n;cases n;have h:a<k.length:=(bS.1 m).1;have e:w.cell? ⟨b,a,aj⟩=aa l[a]:=by simp[World.cell?,G,o,h]
 refine⟨l[a],?_,L a c l[a] m (by simp[o,h])⟩;simp[execOp,C,Instr.loadAt,Instr.sureAddr,p.Ew w q e]
theorem adN(x:Operand)(k a:Nat)(h:List V)(n:ct P t u z size bytes)(o:ll u=ab)(p:H k=aa (.cells h))(q:db (a+size) h.length=ab):
  cc P H ⟨d,.load t x,ty,pos,af,g⟩ [.ref k a] (.agg ((h.drop a).take size)):=by
 intro Q w X R r y;obtain⟨b,A,B⟩:=sM y.1;obtain⟨W,l,C,m,F,Z,f⟩:=r k _ p;rw[A] at m;cases m;have G:a+size<=h.length:=eP q;have e: ∀j,j<size->w.cell? ⟨b,a+j,aj⟩=aa (l.getD (a+j) undef):=λj D=>by
  have:a+j<l.size:=O
  simp[World.cell?,F,this]
 refine⟨_,by simp[execOp,B,Instr.loadAt,Instr.sureAddr,n.Ex w o e];rfl,?_⟩;refine .agg _ _ bQ (λi c v L I=>?_)
 grind
theorem YX(x:Operand)(c:T)(r:List T)(a:ct P t u z size bytes)(e:ll u=ak):cc P H ⟨d,.load t x,ty,pos,af,g⟩ [.aS (c::r)] (.t c):=by intro o w X p q h;obtain⟨b,i,f,k,y,A,l,m⟩:=IB h.1;have n:=l 0 aX;refine⟨f 0,?_,.t _ _ (m 0 c aX)⟩;simp only[execOp,k,Instr.loadAt,Instr.sureAddr,fx,kF,fu];rw[a.Ew w e (v:=f 0) (by simpa using n)];rfl
theorem YW(x:Operand)(h:List T)(n:ct P t u z size bytes)(o:ll u=ab)(B:size<=h.length):
  cc P H ⟨d,.load t x,ty,pos,af,g⟩ [.aS h] (.agg ((h.take size).map .t)):=by
 intro C w X F G p;obtain⟨b,q,f,r,L,Q,k,y⟩:=IB p.1;refine⟨.agg ((List.range size).map f).toArray,?_,.agg _ _ bQ λi c v a l=>?_⟩
 ·simp only[execOp,r,Instr.loadAt,Instr.sureAddr,fx,kF,fu];rw[n.Ex w o (f:=f) λj R=>k j O];rfl
 have m:i<size:=by
  have:=(bS.1 a).1;simp at this;omega
 rw[eL,List.getElem?_take_of_lt m] at a;simp only[List.getElem?_toArray,List.getElem?_map,List.getElem?_range m,hv,Option.some.injEq] at l;cases e:h[i]? with
 |none=>rw[e] at a;simp at a
 |some A=>rw[e] at a;simp at a;rw[<-a,<-l];exact .t _ _ (y i A e)
theorem Xr(x:Operand)(m gen i a:Nat)(o:TypeId)(sz:Nat)(e:List (List T))(h:List T)(c:T)(G:ct P t u z size bytes)(L:ll u=ak)(B:H m=aa (.arr o gen sz e))(n:e[i]? =aa h)(Q:h[a]? =aa c):
  cc P H ⟨d,.load t x,ty,pos,af,g⟩ [.cK m gen sz i a] (.t c):=by
 intro j w X v C R;obtain⟨q,F⟩:=l8 (C m _ B);obtain⟨b,p,W⟩:=qO R.1 F;subst p;have bb:=F;rcases(C m _ B).2 with ⟨r,y⟩|⟨D,A,r,y,I,M,Z⟩
 ·rw[y] at n;simp at n
 rw[bb] at r;cases r;have f:i<e.length:=(bS.1 n).1;have N:a<sz:=by
  grind
 have l:i*sz+a<A.size:=by
  have:(i+1)*sz<=e.length*sz:=eh _ f
  grind
 have k:w.cell? ⟨b,i*sz+a,aj⟩=aa A[i*sz+a]:=by simp[World.cell?,y,l]
 refine⟨A[i*sz+a],?_,.t _ _ (Z i a h c _ n Q (by simp[l]))⟩;simp[execOp,W,Instr.loadAt,Instr.sureAddr,G.Ew w L k]
theorem Yb(x:Operand)(o c k a:Nat)(p:Array Field)(e:Field)(q:TypeDesc)(r:Value)(h l:Nat)(y:P.underlying t=aa (.struct p))(A:p[k]? =aa e)(B:e.offset=a)(m:ct P e.type q r h l)(n:(h==0)=ak):
  cc P H ⟨d,.fieldAddr t x k,ty,pos,af,g⟩ [.ref o c] (.ref o (c+a)):=by
 intro L w X Q R C;obtain⟨b,F,G⟩:=sM C.1;have i:h≠0:=by simpa using n
 refine⟨.pointer (aa ⟨b,c+a,aj⟩),?_,.ref _ _ _ F⟩;simp[execOp,G,Instr.fieldAt,run_underlying y,A,Instr.sureAddr,fieldPlace,m.run_sizeOf,i,kU,B]
theorem Y0(x:Operand)(r:List T)(k a:Nat)(y:Array Field)(e:Field)(A:TypeDesc)(B:Value)(i n:Nat)(C:P.underlying t=aa (.struct y))(F:y[k]? =aa e)(G:e.offset=a)(o:ct P e.type A B i n)(p:(i==0)=ak):
  cc P H ⟨d,.fieldAddr t x k,ty,pos,af,g⟩ [.aS r] (.aS (r.drop a)):=by
 intro D w X I M L;have l:i≠0:=by simpa using p
 obtain⟨b,m,f,Q,R,W,q,Z⟩:=IB L.1;refine⟨.pointer (aa ⟨b,m+a,aj⟩),?_,.aS _ b (m+a) (λj=>f (a+j)) R W (λj v=>?_) λj c h=>?_⟩
 ·simp[execOp,Q,Instr.fieldAt,run_underlying C,F,Instr.sureAddr,fieldPlace,o.run_sizeOf,l,kU,G]
 ·rw[q8];exact q (a+j) (by simp at v;omega)
 exact Z (a+j) c (by simpa using h)
theorem Xt(x:Operand)(l gen o i c k a:Nat)(C:Array Field)(e:Field)(Q:TypeDesc)(R:Value)(h p:Nat)(W:P.underlying t=aa (.struct C))(Z:C[k]? =aa e)(f:e.offset=a)(r:ct P e.type Q R h p)(y:(h==0)=ak)
  (A:TypeId) (m:List (List T)) (F:H l=aa (.arr A gen o m)):cc P H ⟨d,.fieldAddr t x k,ty,pos,af,g⟩ [.cK l gen o i c] (.cK l gen o i (c+a)):=by
 intro D w X I G j;obtain⟨q,L⟩:=l8 (G l _ F);obtain⟨b,B,v⟩:=qO j.1 L;subst B;have bb:=L;have n:h≠0:=by simpa using y
 refine⟨.pointer (aa ⟨b,i*o+(c+a),aj⟩),?_,.cK _ _ _ _ _ _ (G l _ F).1 bb⟩;simp[execOp,v,Instr.fieldAt,run_underlying W,Z,Instr.sureAddr,fieldPlace,r.run_sizeOf,n,kU,f,Nat.add_assoc]
theorem YZ(x y:Operand)(e:TypeId)(k:List (List T))(l:List T)(n:Nat)(C:P.underlying t=aa (.slice e))(F:ct P e u z size bytes)(o:k[n]? =aa l)(G:l.length=size):
  cc P H ⟨d,.indexAddr t x y,ty,pos,af,g⟩ [.t (.bE k),.t (.int .i64 (n:Nat))] (.aS l):=by
 intro M w X L N A;have cY:=dP A.2.1;have Q:n<k.length:=(bS.1 o).1;cases A.1 with
 |t _ _ h=>
  generalize R:L x=v at h;cases h with
  |gX a p=>simp at o
  |bE _ b m i p f W Z B q D r=>
   have I:i=size:=by rw[<-G];exact(q l (bx o)).symm
   subst I;refine⟨.pointer (aa ⟨b,m+n*i,aj⟩),?_,.aS _ b (m+n*i) (λj=>f n j) W Z (λj U=>D n j Q O) λj c h=>r n j l c o h⟩;simp[execOp,R,cY,Instr.indexAt,asIntOf,run_underlying C,F.run_sizeOf,kU];intro h;omega
theorem d4{w:World}{m:Nat}{u:Value}(h:bq W w X (.bg m gen i k L) u)(c:W m=aa (q,gen)):
  (∃a b n ty,u= .slice (aa ⟨b,k*i,aj⟩) L a/\q=aa b/\b<w.heap.size/\w.shape? b=aa (ty,n)/\(k+a)*i=n/\L<=a/\a<=maxLen)\/
  (q=aj/\k=0/\L=0/\u= .slice aj 0 0):=by
 cases h with
 |bg _ _ _ _ _ a b n ty l e o p r x y=>rw[e] at c;cases c;exact .inl ⟨a,b,n,ty,rfl,rfl,o,p,r,x,y⟩
 |iT _ _ _ l e=>rw[e] at c;cases c;exact .inr ⟨rfl,rfl,rfl,rfl⟩
 |l3 _ _ _ _ _ _ A g B e l=>rw[e] at c;cases c;omega
theorem X'(x y:Operand)(e:TypeId)(c gen a h n:Nat)(l:TypeId)(i:List (List T))(r:H c=aa (.arr l gen size i))(F:P.underlying t=aa (.slice e))(G:ct P e u z size bytes)(Z:n<h):
  cc P H ⟨d,.indexAddr t x y,ty,pos,af,g⟩ [.bg c gen size a h,.t (.int .i64 (n:Nat))] (.cK c gen size (a+n) 0):=by
 intro f w X L A o;have cY:=dP o.2.1;generalize B:L x=v at o;have k:=o.1;simp only[B] at k;obtain⟨q,C⟩:=l8 (A c _ r);rcases d4 k C with ⟨Q,b,m,R,rfl,p,j,D,W,I,M⟩|⟨_,_,N,_⟩
 ·subst p;refine⟨.pointer (aa ⟨b,(a+n)*size+0,aj⟩),?_,.cK _ _ _ _ _ b (A c _ r).1 C⟩;simp[execOp,B,cY,Instr.indexAt,asIntOf,run_underlying F,G.run_sizeOf,kU,Nat.add_mul]
  grind
 omega
end oV
def V.one:V->Bool
 | .t _=>ab
 | .ref _ _=>ab
 | .aS _=>ab
 | .bg _ _ _ _ _=>ab
 | .cK _ _ _ _ _=>ab
 | .fn _ _=>ab
 | .agg _=>ak
 | .bM _=>ak
 | .dh=>ak
def oR:List V->Bool
 | []=>ab
 |v::a=>v.one&&oR a
theorem Gf: ∀{c:List V} {i:Nat} {v:V},oR c=ab->c[i]? =aa v->v.one=ab
 |v::c,0,_,h,a=>by simp at a;subst a;simp[oR] at h;exact h.1
 |v::c,i+1,_,h,a=>by simp at a;simp[oR] at h;exact Gf h.2 a
 | [],_,_,_,a=>by simp at a
def V.cs:V->List V
 | .agg cs=>cs
 |v=>[v]
def V.val:V->Bool
 | .agg _=>ab
 |v=>v.one
theorem bq.j7{w:World}{u:Value}(h:bq β w X v u)(a:v.one=ab):u.oneCell'=ab:=by
 cases h with
 |t x v h=>cases h<;>rfl
 |agg=>cases a
 |bM=>cases a
 |ref=>rfl
 |aS=>rfl
 |bg=>rfl
 |iT=>rfl
 |l3=>assumption
 |cK=>rfl
 |mz=>assumption
 |fn=>rfl
 |dh=>cases a
theorem wZ{u:Value}(h:u.oneCell'=ab):u.cells= #[u]:=by cases u<;>first|rfl|cases h
theorem bq.cells{w:World}{u:Value}(h:bq β w X v u)(m:v.val=ab):
  u.cells.size=v.cs.length/\ ∀(i:Nat) c x,v.cs[i]? =aa c->u.cells[i]? =aa x->bq β w X c x:=by
 cases v with
 |agg cs=>
  cases h with|agg _ p o h=>exact⟨o,h⟩
 |bM=>cases m
 |dh=>cases m
 |t x=>
  have:=wZ (h.j7 rfl);rw[this];exact⟨rfl,λi c y k l=>by cases i with|zero=>simp[V.cs] at k l;subst k;subst l;exact h|succ n=>simp[V.cs] at k⟩
 |ref a b=>
  have:=wZ (h.j7 rfl);rw[this];exact⟨rfl,λi c y k l=>by cases i with|zero=>simp[V.cs] at k l;subst k;subst l;exact h|succ n=>simp[V.cs] at k⟩
 |aS a=>
  have:=wZ (h.j7 rfl);rw[this];exact⟨rfl,λi c y k l=>by cases i with|zero=>simp[V.cs] at k l;subst k;subst l;exact h|succ n=>simp[V.cs] at k⟩
 |bg a b c d e=>
  have:=wZ (h.j7 rfl);rw[this];exact⟨rfl,λi c y k l=>by cases i with|zero=>simp[V.cs] at k l;subst k;subst l;exact h|succ n=>simp[V.cs] at k⟩
 |cK a b c d e=>
  have:=wZ (h.j7 rfl);rw[this];exact⟨rfl,λi c y k l=>by cases i with|zero=>simp[V.cs] at k l;subst k;subst l;exact h|succ n=>simp[V.cs] at k⟩
 |fn a b=>
  have:=wZ (h.j7 rfl);rw[this];exact⟨rfl,λi c y k l=>by cases i with|zero=>simp[V.cs] at k l;subst k;subst l;exact h|succ n=>simp[V.cs] at k⟩
def S.new(s:S)(k:Nat)(e:E):S:={t:=s.t,H:=a8 s.H k (aa e),u:=a8 s.u k ab}
theorem Rel.Kn{K:Ctx}{s:S}{w:World}(h:Rel K β s a w)(k y:Nat)(W:s.u k=ak)(Z:Array Value)(f:TypeId)(e:E)
  (T: ∀(p:Map) (M:Nat->Prop) (j:World),j=w.alloc (.cells Z f)->p k=aa (aa w.heap.size,y)->(∀v u,bq β w (own K β s.H) v u->bq p j M v u)->(∀b,¬p.n k b)->cX p j M k e):
  Rel K (β.put k (aa (aa w.heap.size,y))) (s.new k e) a (w.alloc (.cells Z f)):=by
 have l: ∀X,Ext X w (w.alloc (.cells Z f)):=λX=>Ext.alloc X w _;have A:β k=aj:=h.eF _ W;have q: ∀id x,β id=aa x->β.put k (aa (aa w.heap.size,y)) id=aa x:=λid x G=>by
  rw[fR _ _ _ _ (by intro e;subst e;rw[A] at G;cases G)];exact G
 have L:=ed.of q;have m: ∀id b,At (β.put k (aa (aa w.heap.size,y))) id b->(id=k/\b=w.heap.size)\/(id≠k/\At β id b):=λid b bb=>by
  by_cases B:id=k
  ·subst B;rcases bb with ⟨g,bb⟩|bb
   ·rw[kp] at bb;cases bb;exact .inl ⟨rfl,rfl⟩
   exact bB bb (h.e9 _ _ W)
  refine .inr ⟨B,?_⟩;rcases bb with ⟨g,bb⟩|bb
  ·rw[fR _ _ _ _ B] at bb;exact .inl ⟨g,bb⟩
  exact .inr bb
 have r: ∀b,b<w.heap.size->own K (β.put k (aa (aa w.heap.size,y))) (a8 s.H k (aa e)) b->own K β s.H b:=by
  rintro b U (G|⟨id,F,Q⟩)
  ·exact .inl G
  rcases m id b Q with ⟨rfl,rfl⟩|⟨D,C⟩
  ·omega
  rw[cb _ _ _ _ D] at F;exact .inr ⟨id,F,C⟩
 have R: ∀v u,bq β w (own K β s.H) v u->bq (β.put k (aa (aa w.heap.size,y))) (w.alloc (.cells Z f)) (own K (β.put k (aa (aa w.heap.size,y))) (a8 s.H k (aa e))) v u:=
  λv u V=>V.mono (l _) r L (tV (l _))
 refine {ext:=h.ext.trans ((l λ_=>False).weaken λ_ _ h=>h.elim),rH:=h.rH,r6:=h.r6,k9:=h.k9,wc:=h.wc,base:= ?_,kA:=h.kA.ext h.ext.size (l _),low:= ?_,eF:= ?_,e9:= ?_,inj:= ?_,fresh:= ?_,heap:= ?_,dC:=λi=>R _ _ (h.dC i),nt:=h.nt,defers:=h.defers}
 ·refine h.base.keep λid hid=>?_
  have:=h.low id hid;rw[fR _ _ _ _ (by intro e;subst e;rw[W] at this;cases this)]
 ·intro id hid;show a8 s.u k ab id=ab;by_cases e:id=k
  ·subst e;exact cd _ _ _
  rw[cb _ _ _ _ e];exact h.low id hid
 ·intro id hid;have c:a8 s.u k ab id=ak:=hid;by_cases e:id=k
  ·subst e;rw[cd] at c;cases c
  rw[cb _ _ _ _ e] at c;rw[fR _ _ _ _ e];exact h.eF id c
 ·intro id b hid;have c:a8 s.u k ab id=ak:=hid;by_cases e:id=k
  ·subst e;rw[cd] at c;cases c
  rw[cb _ _ _ _ e] at c;exact h.e9 id b c
 ·intro id I b F Q;rcases m id b F with ⟨rfl,rfl⟩|⟨_,C⟩<;>rcases m I _ Q with ⟨rfl,e⟩|⟨_,N⟩
  ·rfl
  ·have:=(h.fresh _ _ N).2;omega
  ·subst e;have:=(h.fresh _ _ C).2;omega
  exact h.inj _ _ _ C N
 ·intro id b bb;rcases m id b bb with ⟨rfl,rfl⟩|⟨_,C⟩
  ·exact⟨.inr h.ext.size,aX⟩
  exact⟨(h.fresh _ _ C).1,by have:=(h.fresh _ _ C).2;simp;omega⟩
 intro id e' o;have o:a8 s.H k (aa e) id=aa e':=o;show a8 s.u k ab id=ab/\cX _ _ (own K _ (a8 s.H k (aa e))) id e';by_cases B:id=k
 ·subst B;rw[cd] at o;cases o;exact⟨cd _ _ _,T _ _ _ rfl (kp _ _ _) R λb=>h.e9 _ b W⟩
 rw[cb _ _ _ _ B] at o;obtain⟨F,Q⟩:=h.heap id e' o;exact⟨by rw[cb _ _ _ _ B];exact F,Q.mono (l _) r L (q id) (tV (l _)) λb bb=>AL _ _ _ (h.fresh id b bb).2⟩
theorem Rel.new{K:Ctx}{s:S}{w:World}(h:Rel K β s a w)(k m:Nat)(p:s.u k=ak)(n:Array Value)(o:TypeId)(e:E)
  (q: ∀(c:Map) (l:Nat->Prop) (i:World),i=w.alloc (.cells n o)->c k=aa (aa w.heap.size,m)->(∀v u,bq β w (own K β s.H) v u->bq c i l v u)->cX c i l k e):
  Rel K (β.put k (aa (aa w.heap.size,m))) (s.new k e) a (w.alloc (.cells n o)):=
 h.Kn k m p n o e λc l i r x y _=>q c l i r x y
theorem Rel.D'{K:Ctx}{s:S}{w:World}(h:Rel K β s a w)(k:Nat)(o:s.u k=ak)(e:Array Value)(l:TypeId)(m:List V)(p:e.size=m.length)
  (q: ∀(i:Nat) c u,m[i]? =aa c->e[i]? =aa u->bq β w (own K β s.H) c u):
  Rel K (β.put k (aa (aa w.heap.size,0))) (s.new k (.cells m)) a (w.alloc (.cells e l)):=
 h.new k 0 o e l _ λr C F x y n=>⟨w.heap.size,e,l,y,by subst x;exact kP _ _,p,λi c u A B=>n _ _ (q i c u A B)⟩
section ops
variable {K:Ctx}{s:S}{d:Option Tmp}{ty:TypeId}{pos:String}{af:Array Edge}{g:Option (Nat×Bool)}
variable {t:TypeId}{u:TypeDesc}{z:Value}{size bytes:Nat}
theorem UT(k:Nat)(e:s.u k=ak)(x:Operand)(v:V)(l: ∀i,d=aa i->dt i K.nt=ab)(m:s.get x=v)(n:v.val=ab):
  ej K ⟨d,.box t x,ty,pos,af,g⟩ s ((s.new k (.cells v.cs)).put d (.ref k 0)):=by
 intro r a w next Q h o
 subst m;obtain⟨p,q⟩:=(h.get x).cells n;unfold Oper.wp;have c:(execOp a.eval ⟨d,.box t x,ty,pos,af,g⟩).run K.P w= .ok (.value (.pointer (aa ⟨w.heap.size,0,aj⟩))) (w.alloc (.cells (a.eval x).cells t)):=by
  simp[execOp,Instr.box,newVar,newRow]
 rw[c];exact o _ _ _ ((h.D' k e _ t _ p q).put d l (.ref _ _ _ (cd _ _ _)))
theorem aeb(k:Nat)(e:s.u k=ak)(l: ∀i,d=aa i->dt i K.nt=ab)(m:ct K.P t u z size bytes)(n:(hX z).val=ab):
  ej K ⟨d,.alloc t,ty,pos,af,g⟩ s ((s.new k (.cells (hX z).cs)).put d (.ref k 0)):=by
 intro h a w next Q o p
 obtain⟨q,r⟩:=(zX h w (own K h s.H) z).cells n;unfold Oper.wp;have c:(execOp a.eval ⟨d,.alloc t,ty,pos,af,g⟩).run K.P w= .ok (.value (.pointer (aa ⟨w.heap.size,0,aj⟩))) (w.alloc (.cells z.cells t)):=by
  simp[execOp,Instr.alloc,m.uu,newVar,newRow]
 rw[c];exact p _ _ _ ((o.D' k e _ t _ q r).put d l (.ref _ _ _ (cd _ _ _)))
def nO(c:List V)(a:Nat)(e:List V):List V:=c.take a++e++c.drop (a+e.length)
theorem F7{w:World}{a c:Array Value}{e:TypeId}(l:w.heap[b]? =aa (.cells a e (0,0)))(i:c.size=a.size)(k:Nat):(w.setRow b c).shape? k=w.shape? k:=by
 by_cases h:k=b
 ·subst h;unfold hz;rw[setRow_heap _ _ _ _ _ _ l,l];simp[i]
 exact zm (setRow_other _ _ _ _ h)
theorem Rel.setRow{K:Ctx}{s:S}{w:World}(h:Rel K β s a w)(m b:Nat)(Q:At β m b)(y:Array Value)(D:TypeId)(R:w.heap[b]? =aa (.cells y D (0,0)))(q:Array Value)(A:q.size=y.size)(e:E)(W:s.H m≠aj)
  (I:cX β (w.setRow b q) (own K β s.H) m e):Rel K β {s with H:=a8 s.H m (aa e)} a (w.setRow b q):=by
 have r:own K β s.H b:= .inr ⟨m,W,Q⟩;have p:Ext (own K β s.H) w (w.setRow b q):=⟨rfl,rfl,rfl,aX,λk _ F=>setRow_other _ _ _ _ λe=>F (e▸r)⟩
 have B:Shaped β w (w.setRow b q):=by
  intro l _;by_cases C:l=b
  ·subst C;unfold hz;rw[setRow_heap _ _ _ _ _ _ R,R];simp[A]
  exact zm (setRow_other _ _ _ _ C)
 have o: ∀l,own K β (a8 s.H m (aa e)) l->own K β s.H l:=by
  rintro l (F|⟨c,G,L⟩)
  ·exact .inl F
  by_cases x:c=m
  ·subst x;exact .inr ⟨c,W,L⟩
  rw[cb _ _ _ _ x] at G;exact .inr ⟨c,G,L⟩
 have X: ∀v u,bq β w (own K β s.H) v u->bq β (w.setRow b q) (own K β (a8 s.H m (aa e))) v u:=λv u N=>N.mono p (λl _=>o l) (ed.refl _) B;have V:K.M b\/K.w0.heap.size<=b:=(h.fresh m b Q).1;refine {h with ext:=h.ext.trans' ⟨rfl,rfl,rfl,aX,λk hk F=>setRow_other _ _ _ _ ?_⟩,kA:=λl T=>(F7 R A l).trans (h.kA l T),fresh:= ?_,heap:= ?_,dC:=λi=>X _ _ (h.dC i)}
 ·intro e
  grind
 ·intro c l f;exact⟨(h.fresh c l f).1,by have:=(h.fresh c l f).2;simpa using this⟩
 intro c e' n;have n:a8 s.H m (aa e) c=aa e':=n;show s.u c=ab/\cX β (w.setRow b q) (own K β (a8 s.H m (aa e))) c e';by_cases x:c=m
 ·subst x;rw[cd] at n;cases n;cases j:s.H c with
  |none=>exact bB j W
  |some U=>
   exact⟨(h.heap c U j).1,I.mono (Ext.refl _ _) (λl _=>o l) (ed.refl _) (λ_ h=>h) (Shaped.refl _ _) λ_ _=>rfl⟩
 rw[cb _ _ _ _ x] at n;obtain⟨G,L⟩:=h.heap c e' n;exact⟨G,L.mono p (λl _=>o l) (ed.refl _) (λ_ h=>h) B λl Z=>setRow_other _ _ _ _ λe=>x (h.inj c m l Z (e▸Q))⟩
theorem M7(e k:List V)(a:Nat)(h:a+k.length<=e.length)(l m:List Value)(p:l.length=e.length)(q:m.length=k.length){R:V->Value->Prop}
  (r: ∀(i:Nat) c u,e[i]? =aa c->l[i]? =aa u->R c u) (x: ∀(i:Nat) c u,k[i]? =aa c->m[i]? =aa u->R c u):
  ∀(i:Nat) c u,(nO e a k)[i]? =aa c->(l.take a++m++l.drop (a+m.length))[i]? =aa u->R c u:=by
 intro i c u o n;simp only[nO,List.getElem?_append,im,k',List.getElem?_take,List.getElem?_drop] at o n
 grind
theorem FC{P:Program}(h:ct P t u z size bytes)(w:World)(b o:Nat)(a:Array Value)(c:TypeId)(v:Value)(i:w.heap[b]? =aa (.cells a c (0,0)))
  (e:v.cells.size=size) (l:o+size<=a.size) (k: ∀x∈v.cells.toList,x.oneCell'=ab):
  (storeVar t ⟨b,o,aj⟩ v).run P w= .ok () (w.setRow b (a.toList.take o++v.cells.toList++a.toList.drop (o+v.cells.toList.length)).toArray):=by
 have:=run_storeCells_at P b o c v.cells.toList 0 a w i (by simp[e];omega) k;simp only[storeVar,fx,h.run_sizeOf,fu,e,ne_eq,not_true,if_false]
 grind
theorem ad'(x y:Operand)(r l:Nat)(A:List V)(v:V)(j:s.get x= .ref r l)(hy:s.get y=v)(D:s.H r=aa (.cells A))(gJ:ct K.P t u z size bytes)
  (I:v.val=ab) (fc:oR v.cs=ab) (hs:b5 v.cs.length size=ab) (cI:db (l+size) A.length=ab):
  ej K ⟨aj,.store t x y,ty,pos,af,g⟩ s {s with H:=a8 s.H r (aa (.cells (nO A l v.cs)))}:=by
 intro B a w next Q Z hk
 subst hy;have C:=Z.get x;rw[j] at C;obtain⟨b,f,M⟩:=sM C;obtain⟨jf,m,o,h1,F,h3,h4⟩:=(Z.heap r _ D).2;rw[f] at h1;cases h1;obtain⟨N,c2⟩:=(Z.get y).cells I;have T:(a.eval y).cells.size=size:=by rw[N];exact de hs
 have hle:l+size<=A.length:=eP cI;have G: ∀e∈(a.eval y).cells.toList,e.oneCell'=ab:=by
  intro e he;obtain⟨i,hi⟩:=jQ.1 he;have L:(a.eval y).cells[i]? =aa e:=by simpa using hi
  have R:i<(s.get y).cs.length:=by rw[<-N];exact(kB.1 L).1
  exact(c2 i _ e (bp R) L).j7 (Gf fc (bp R))
 unfold Oper.wp;have W:=FC gJ w b l m o (a.eval y) F T O G;have p:(execOp a.eval ⟨aj,.store t x y,ty,pos,af,g⟩).run K.P w= .ok .skip (w.setRow b (m.toList.take l++(a.eval y).cells.toList++m.toList.drop (l+(a.eval y).cells.toList.length)).toArray):=by
  simp only[execOp,M,Instr.storeAt,Instr.sureAddr,fx,kF,fu,W]
 rw[p];have n:(m.toList.take l++(a.eval y).cells.toList++m.toList.drop (l+(a.eval y).cells.toList.length)).length=m.size:=by
  grind
 refine hk B _ _ (Rel.setRow Z r b (.inl ⟨_,f⟩) m o F _ (by simpa using n) (.cells (nO A l (s.get y).cs)) (by rw[D];simp) ?_);refine⟨b,_,o,f,setRow_heap _ _ _ _ _ _ F,?_,?_⟩
 ·simp only[List.size_toArray,n,h3];simp[nO]
  grind
 intro i c e bT he;have U:own K B s.H b:= .inr ⟨r,by rw[D];simp,.inl ⟨_,f⟩⟩;have q: ∀v u,bq B w (own K B s.H) v u->bq B (w.setRow b (m.toList.take l++(a.eval y).cells.toList++m.toList.drop (l+(a.eval y).cells.toList.length)).toArray) (own K B s.H) v u:=by
  intro v u I;refine I.mono ⟨rfl,rfl,rfl,aX,λk _ j=>setRow_other _ _ _ _ λe=>j (e▸U)⟩ (λ_ _ h=>h) (ed.refl _) ?_;intro jf _;by_cases X:jf=b
  ·subst X;unfold hz;rw[setRow_heap _ _ _ _ _ _ F,F]
   grind
  exact zm (setRow_other _ _ _ _ X)
 refine q _ _ (M7 A (s.get y).cs l (by have:=de hs;omega) m.toList (a.eval y).cells.toList (by simpa using h3) (by simpa using N) (λi c u h5 h6=>h4 i c u h5 (by simpa using h6)) (λi c u h5 h6=>c2 i c u h5 (by simpa using h6)) i c e bT ?_)
 grind
end ops
end
section oV
variable {P:Program}{H:Nat->Option E}{d:Option Tmp}{ty:TypeId}{pos:String}{af:Array Edge}{g:Option (Nat×Bool)}
variable {t:TypeId}{u:TypeDesc}{z:Value}{size bytes:Nat}
theorem agd(x y:Operand)(t c:TypeId)(k:IntKind)(m n:Int):cc P H ⟨d,.binOp .sub t x y c,ty,pos,af,g⟩ [.t (.int k m),.t (.int k n)] (.t (.int k (k.wrap (m-n)))):=by intro e w X h _ a;refine⟨.int k (k.wrap (m-n)),?_,.t _ _ (.int _ _)⟩;simp[execOp,dP a.1,dP a.2.1,eqGuard,binOp,Op.intArith]
theorem af0(x y:Operand)(t c:TypeId)(k:IntKind)(m n:Int):cc P H ⟨d,.binOp .mul t x y c,ty,pos,af,g⟩ [.t (.int k m),.t (.int k n)] (.t (.int k (k.wrap (m*n)))):=by intro e w X h _ a;refine⟨.int k (k.wrap (m*n)),?_,.t _ _ (.int _ _)⟩;simp[execOp,dP a.1,dP a.2.1,eqGuard,binOp,Op.intArith]
theorem agf(x y:Operand)(t c:TypeId)(k:IntKind)(m n:Int)(h:n≠0):cc P H ⟨d,.binOp .quo t x y c,ty,pos,af,g⟩ [.t (.int k m),.t (.int k n)] (.t (.int k (k.wrap (m.tdiv n)))):=by intro e w X i _ a;refine⟨.int k (k.wrap (m.tdiv n)),?_,.t _ _ (.int _ _)⟩;simp[execOp,dP a.1,dP a.2.1,eqGuard,binOp,Op.intDiv,h]
theorem age(x y:Operand)(t c:TypeId)(k:IntKind)(m n:Int)(h:n≠0):cc P H ⟨d,.binOp .rem t x y c,ty,pos,af,g⟩ [.t (.int k m),.t (.int k n)] (.t (.int k (m.tmod n))):=by intro e w X i _ a;refine⟨.int k (m.tmod n),?_,.t _ _ (.int _ _)⟩;simp[execOp,dP a.1,dP a.2.1,eqGuard,binOp,Op.intDiv,h]
theorem af7(x y:Operand)(t c:TypeId)(k:IntKind)(m n:Int):cc P H ⟨d,.binOp .eql t x y c,ty,pos,af,g⟩ [.t (.int k m),.t (.int k n)] (.t (.bool (ag (m=n)))):=by intro e w X h _ a;refine⟨.bool (ag (m=n)),?_,.t _ _ (.bool _)⟩;simp[execOp,dP a.1,dP a.2.1,eqGuard,binOp,Op.intCmp];rfl
theorem agi(x y:Operand)(t c:TypeId)(k:IntKind)(m n:Int):cc P H ⟨d,.binOp .neq t x y c,ty,pos,af,g⟩ [.t (.int k m),.t (.int k n)] (.t (.bool (!decide (m=n)))):=by intro e w X h _ a;refine⟨.bool (!decide (m=n)),?_,.t _ _ (.bool _)⟩;simp[execOp,dP a.1,dP a.2.1,eqGuard,binOp,Op.intCmp];rfl
theorem af3(x y:Operand)(t c:TypeId)(k:IntKind)(m n:Int):cc P H ⟨d,.binOp .lss t x y c,ty,pos,af,g⟩ [.t (.int k m),.t (.int k n)] (.t (.bool (ag (m<n)))):=by intro e w X h _ a;refine⟨.bool (ag (m<n)),?_,.t _ _ (.bool _)⟩;simp[execOp,dP a.1,dP a.2.1,eqGuard,binOp,Op.intCmp]
theorem af4(x y:Operand)(t c:TypeId)(k:IntKind)(m n:Int):cc P H ⟨d,.binOp .leq t x y c,ty,pos,af,g⟩ [.t (.int k m),.t (.int k n)] (.t (.bool (ag (m<=n)))):=by intro e w X h _ a;refine⟨.bool (ag (m<=n)),?_,.t _ _ (.bool _)⟩;simp[execOp,dP a.1,dP a.2.1,eqGuard,binOp,Op.intCmp]
theorem af5(x y:Operand)(t c:TypeId)(k:IntKind)(m n:Int):cc P H ⟨d,.binOp .gtr t x y c,ty,pos,af,g⟩ [.t (.int k m),.t (.int k n)] (.t (.bool (ag (n<m)))):=by intro e w X h _ a;refine⟨.bool (ag (n<m)),?_,.t _ _ (.bool _)⟩;simp[execOp,dP a.1,dP a.2.1,eqGuard,binOp,Op.intCmp]
theorem af6(x y:Operand)(t c:TypeId)(k:IntKind)(m n:Int):cc P H ⟨d,.binOp .geq t x y c,ty,pos,af,g⟩ [.t (.int k m),.t (.int k n)] (.t (.bool (ag (n<=m)))):=by intro e w X h _ a;refine⟨.bool (ag (n<=m)),?_,.t _ _ (.bool _)⟩;simp[execOp,dP a.1,dP a.2.1,eqGuard,binOp,Op.intCmp]
theorem af8(x y:Operand)(t c:TypeId)(m n:List UInt8)(h:(m.length:Int)+n.length<=9223372036854775807):cc P H ⟨d,.binOp .add t x y c,ty,pos,af,g⟩ [.t (.str m),.t (.str n)] (.t (.str (m++n))):=by
 intro l w X o _ a;refine⟨.string ⟨(m++n).toArray⟩,?_,.t _ _ (.str _)⟩;have e:(ByteArray.mk m.toArray).size=m.length:=by simp[ByteArray.size]
 have i:(ByteArray.mk n.toArray).size=n.length:=by simp[ByteArray.size]
 have k:(ByteArray.mk m.toArray)++(ByteArray.mk n.toArray)=ByteArray.mk (m++n).toArray:=by
  apply ByteArray.ext;simp
 simp[execOp,iu a.1,iu a.2.1,eqGuard,binOp,Op.stringOp,e,i,k];exact h
theorem aeK(x y:Operand)(t c:TypeId)(m n:List UInt8):cc P H ⟨d,.binOp .eql t x y c,ty,pos,af,g⟩ [.t (.str m),.t (.str n)] (.t (.bool (ag (m=n)))):=by
 intro e w X h _ a;refine⟨.bool (ag (m=n)),?_,.t _ _ (.bool _)⟩;simp[execOp,iu a.1,iu a.2.1,eqGuard,binOp,Op.stringOp]
 grind
theorem aeU(x y:Operand)(t c:TypeId)(m n:List UInt8):cc P H ⟨d,.binOp .neq t x y c,ty,pos,af,g⟩ [.t (.str m),.t (.str n)] (.t (.bool (!decide (m=n)))):=by
 intro e w X h _ a;refine⟨.bool (!decide (m=n)),?_,.t _ _ (.bool _)⟩;simp[execOp,iu a.1,iu a.2.1,eqGuard,binOp,Op.stringOp]
 grind
theorem aeJ(x y:Operand)(t c:TypeId)(m n:List UInt8):cc P H ⟨d,.binOp .geq t x y c,ty,pos,af,g⟩ [.t (.str m),.t (.str n)] (.t (.bool (!Op.bytesLess m n))):=by intro e w X h _ a;refine⟨.bool (!Op.bytesLess m n),?_,.t _ _ (.bool _)⟩;simp[execOp,iu a.1,iu a.2.1,eqGuard,binOp,Op.stringOp]
theorem abO(x y:Operand)(l:List UInt8)(n:Nat)(b:UInt8)(e:P.underlying t=aa .string)(h:l[n]? =aa b):cc P H ⟨d,.index t x y,ty,pos,af,g⟩ [.t (.str l),.t (.int .i64 (n:Nat))] (.t (.int .u8 b.toNat)):=by
 intro k w X m _ c;refine⟨.int .u8 b.toNat,?_,.t _ _ (.int _ _)⟩;have i:(ByteArray.mk l.toArray)[n]? =aa b:=by
  have a:=(bS.1 h).1;have bW:=(bS.1 h).2;rw[getElem?_pos _ _ (by simpa[ByteArray.size] using a)];simpa[ByteArray.getElem_eq_getElem_data] using bW
 simp[execOp,iu c.1,dP c.2.1,Instr.index,asIntOf,run_underlying e,i]
theorem agh(x:Operand)(t:TypeId)(b:Bool):cc P H ⟨d,.unOp .not t x,ty,pos,af,g⟩ [.t (.bool b)] (.t (.bool (!b))):=by intro c w X e _ a;refine⟨.bool (!b),?_,.t _ _ (.bool _)⟩;simp[execOp,oB a.1,Op.unary]
theorem Vr(w:World)(n:Nat)(a b:Bool)(c:P.underlying t=aa .bool):(Op.equalIn (n+1) t (.bool a) (.bool b)).run P w= .ok (a==b) w:=by simp[Op.equalIn,run_underlying c]
theorem Lx(w:World)(a b:Bool)(c:P.underlying t=aa .bool):(Op.equal t (.bool a) (.bool b)).run P w= .ok (a==b) w:=Vr w 9999 a b c
theorem aai(a b:Bool):binOp .eql t (.bool a) (.bool b)=(do pure (.bool (<-Op.equal t (.bool a) (.bool b)))):=rfl
theorem aah(a b:Bool):binOp .neq t (.bool a) (.bool b)=(do pure (.bool (!(<-Op.equal t (.bool a) (.bool b))))):=rfl
theorem aeR(x y:Operand)(c:TypeId)(m n:Bool)(e:P.underlying t=aa .bool):cc P H ⟨d,.binOp .eql t x y c,ty,pos,af,g⟩ [.t (.bool m),.t (.bool n)] (.t (.bool (m==n))):=by intro h w X i _ a;refine⟨.bool (m==n),?_,.t _ _ (.bool _)⟩;simp[execOp,oB a.1,oB a.2.1,eqGuard,aai,Lx w m n e]
theorem aeQ(x y:Operand)(c:TypeId)(m n:Bool)(e:P.underlying t=aa .bool):cc P H ⟨d,.binOp .neq t x y c,ty,pos,af,g⟩ [.t (.bool m),.t (.bool n)] (.t (.bool (!(m==n)))):=by intro h w X i _ a;refine⟨.bool (!(m==n)),?_,.t _ _ (.bool _)⟩;simp[execOp,oB a.1,oB a.2.1,eqGuard,aah,Lx w m n e]
theorem QT(x:Operand)(a c:TypeId)(k e:IntKind)(h:TypeDesc)(n:Int)(i:P.underlying a=aa h)(l:P.underlying c=aa (.int e)):cc P H ⟨d,.convert a c x,ty,pos,af,g⟩ [.t (.int k n)] (.t (.int e (e.wrap n))):=by intro o w X p _ m;refine⟨.int e (e.wrap n),?_,.t _ _ (.int _ _)⟩;simp only[execOp,dP m.1,convert,fx,run_underlying i,run_underlying l,fu];cases h<;>simp[Conv.intToInt]
theorem aap(x:Operand)(l:List UInt8)(a:P.underlying t=aa .string):cc P H ⟨d,.call {callee:= .builtin .len,args:= #[x],argTypes:= #[t]},ty,pos,af,g⟩ [.t (.str l)] (.t (.int .i64 (l.length:Nat))):=by
 intro k w X c _ e;refine⟨.int .i64 (l.length:Nat),?_,.t _ _ (.int _ _)⟩;have h:c x= .string ⟨l.toArray⟩:=iu e.1;have i:(ByteArray.mk l.toArray).size=l.length:=by simp[ByteArray.size]
 simp[execOp,resolve,invoke,builtin,h,Builtin.len_,run_underlying a,goInt,i]
theorem aft{W:Map}{w:World}{X:Nat->Prop}{c:List (List T)}{u:Value}(h:bq W w X (.t (.bE c)) u): ∃a cap,u= .slice a c.length cap:=by
 cases h with
 |t _ _ h=>cases h with
  |gX a cap=>exact⟨a,cap,rfl⟩
  |bE _ b e size cap=>exact⟨_,cap,rfl⟩
theorem abQ(x:Operand)(e:TypeId)(c:List (List T))(i:P.underlying t=aa (.slice e)):cc P H ⟨d,.call {callee:= .builtin .len,args:= #[x],argTypes:= #[t]},ty,pos,af,g⟩ [.t (.bE c)] (.t (.int .i64 (c.length:Nat))):=by intro n w X k _ l;obtain⟨a,m,h⟩:=aft l.1;refine⟨.int .i64 (c.length:Nat),?_,.t _ _ (.int _ _)⟩;have h:k x=_:=h;simp[execOp,resolve,invoke,builtin,h,Builtin.len_,run_underlying i,goInt]
theorem aaq(x:Operand)(e:TypeId)(n gen c i h:Nat)(r:P.underlying t=aa (.slice e))(o:TypeId)(k:List (List T))(s:H n=aa (.arr o gen c k)):cc P H ⟨d,.call {callee:= .builtin .len,args:= #[x],argTypes:= #[t]},ty,pos,af,g⟩ [.bg n gen c i h] (.t (.int .i64 (h:Nat))):=by
 intro y w X p A B;obtain⟨a,cap,l⟩: ∃a cap,p x= .slice a h cap:=by
  have C:bq y w X (.bg n gen c i h) (p x):=B.1;obtain⟨q,F⟩:=l8 (A n _ s);rcases d4 C F with ⟨cap,b,m,G,l,_⟩|⟨_,_,K,l⟩
  ·exact⟨_,_,l⟩
  exact⟨aj,0,by rw[K];exact l⟩
 refine⟨.int .i64 (h:Nat),?_,.t _ _ (.int _ _)⟩;simp[execOp,resolve,invoke,builtin,l,Builtin.len_,run_underlying r,goInt]
theorem aar(x:Operand)(a:List V)(k:Nat)(v:V)(h:a[k]? =aa v):cc P H ⟨d,.extract x k,ty,pos,af,g⟩ [.bM a] v:=by
 intro m w X e _ n;have i:bq m w X (.bM a) (e x):=n.1;generalize o:e x=y at i;cases i with
 |bM _ c p q=>
  have l:k<c.size:=by rw[p];exact(bS.1 h).1
  refine⟨c[k],?_,q k v c[k] h (by simp[l])⟩;simp[execOp,o,Instr.extract,l]
theorem MP(x:Operand)(v:V)(a:(match v with| .ref _ _=>ab| .aS _=>ab|_=>ak)=ab):cc P H ⟨d,.nilCheck x,ty,pos,af,g⟩ [v] v:=by
 intro i w X c _ k;have e:bq i w X v (c x):=k.1;refine⟨c x,?_,e⟩;generalize h:c x=y at e;cases e with
 |ref=>simp[execOp,h]
 |aS=>simp[execOp,h]
 |cK=>cases a
 |mz=>cases a
 |l3=>cases a
 |t=>cases a
 |agg=>cases a
 |bM=>cases a
 |bg=>cases a
 |iT=>cases a
 |fn=>cases a
 |dh=>cases a
theorem dH.cW: ∀{β:Map} {w:World} {X:Nat->Prop} {a:List V} {e:List Value},dH β w X a e->e.length=a.length/\ ∀(i:Nat) c u,a[i]? =aa c->e[i]? =aa u->bq β w X c u
 |_,_,_,[],[],_=>⟨rfl,λi c u h _=>by simp at h⟩
 |_,_,_,v::a,x::e,h=>by
  obtain⟨m,n⟩:=dH.cW h.2;refine⟨by simp[m],λi c u k l=>?_⟩;cases i with
  |zero=>simp at k l;subst k;subst l;exact h.1
  |succ i=>simp at k l;exact n i c u k l
 |_,_,_,[],_::_,h=>h.elim
 |_,_,_,_::_,[],h=>h.elim
theorem YV(f:FuncId)(a:Array Operand)(e:List V):cc P H ⟨d,.makeFunc (.func f) #[] a,ty,pos,af,g⟩ e (.fn f e):=by
 intro l w X k _ m;have h:dH l w X e (a.toList.map k):=by simpa[Op.operands] using m
 obtain⟨n,o⟩:=h.cW;exact⟨.func (.func f) #[] (a.map k),by simp[execOp,Instr.makeFunc],.fn f e _ (by simpa using n) λi c u p q=>o i c u p (by simpa using q)⟩
theorem af2(x y:Operand)(a:Array TypeId)(k:IntKind)(m n:Int):cc P H ⟨d,.call {callee:= .builtin .max,args:= #[x,y],argTypes:=a},ty,pos,af,g⟩ [.t (.int k m),.t (.int k n)] (.t (.int k (max m n))):=by
 intro p w X c _ e;refine⟨.int k (max m n),?_,.t _ _ (.int _ _)⟩;have h:c x= .int k m:=dP e.1;have i:c y= .int k n:=dP e.2.1;have l:(if n>m then n else m)=max m n:=by split<;>omega
 have o: ∀w,(Builtin.max_ a ty #[.int k m,.int k n]).run P w= .ok (.int k (max m n)) w:=by
  intro w;simp only[Builtin.max_,List.foldlM,Builtin.max2,l];rfl
 simp[execOp,resolve,invoke,builtin,h,i,o]
theorem af1(x y:Operand)(a:Array TypeId)(k:IntKind)(m n:Int):cc P H ⟨d,.call {callee:= .builtin .min,args:= #[x,y],argTypes:=a},ty,pos,af,g⟩ [.t (.int k m),.t (.int k n)] (.t (.int k (min m n))):=by
 intro o w X c _ e;refine⟨.int k (min m n),?_,.t _ _ (.int _ _)⟩;have h:c x= .int k m:=dP e.1;have i:c y= .int k n:=dP e.2.1;have l: ∀w,(Builtin.min_ a ty #[.int k m,.int k n]).run P w= .ok (.int k (min m n)) w:=by
  intro w;simp only[Builtin.min_,List.foldlM,Builtin.min2]
  first|rfl|(rw[show min m n=(if n<m then n else m) from by split<;>omega];rfl)
 simp[execOp,resolve,invoke,builtin,h,i,l]
end oV
section oV
variable {P:Program}{H:Nat->Option E}{d:Option Tmp}{ty:TypeId}{pos:String}{af:Array Edge}{g:Option (Nat×Bool)}
variable {t:TypeId}{u:TypeDesc}{z:Value}{size bytes:Nat}
theorem km(w:World)(n:Nat)(y:Nat)(c:Go.BoundsCode)(h:n<=y):(Instr.sliceBound (.int .i64 (n:Nat)) y c).run P w= .ok n w:=by
 simp[Instr.sliceBound,asIntOf]
 grind
theorem Ge(l:List UInt8)(a b:Nat):(ByteArray.mk l.toArray).extract a b=ByteArray.mk ((l.take b).drop a).toArray:=by
 apply ByteArray.ext;rw[ByteArray.data_extract]
 grind
theorem XA(x:Operand)(h i:Operand)(l:List UInt8)(a b:Nat)(k:P.underlying t=aa .string)(m:a<=b)(n:b<=l.length):
  cc P H ⟨d,.slice t x (aa h) (aa i) aj,ty,pos,af,g⟩ [.t (.str l),.t (.int .i64 (a:Nat)),.t (.int .i64 (b:Nat))] (.t (.str ((l.take b).drop a))):=by
 intro s w X c _ e;refine⟨.string ⟨((l.take b).drop a).toArray⟩,?_,.t _ _ (.str _)⟩;have o:c x=_:=iu e.1;have p:c h=_:=dP e.2.1;have q:c i=_:=dP e.2.2.1;have r:(ByteArray.mk l.toArray).size=l.length:=by simp[ByteArray.size]
 simp[execOp,o,p,q,Instr.sliceAt,Instr.slice,run_underlying k,Instr.sliceBounds,r,km w b l.length _ n,km w a b _ m,Ge]
theorem Vy(x:Operand)(c:Operand)(l:List UInt8)(a:Nat)(i:P.underlying t=aa .string)(k:a<=l.length):
  cc P H ⟨d,.slice t x (aa c) aj aj,ty,pos,af,g⟩ [.t (.str l),.t (.int .i64 (a:Nat))] (.t (.str (l.drop a))):=by
 intro p w X e _ h;refine⟨.string ⟨(l.drop a).toArray⟩,?_,.t _ _ (.str _)⟩;have m:e x=_:=iu h.1;have n:e c=_:=dP h.2.1;have o:(ByteArray.mk l.toArray).size=l.length:=by simp[ByteArray.size]
 simp[execOp,m,n,Instr.sliceAt,Instr.slice,run_underlying i,Instr.sliceBounds,o,km w a l.length _ k,Ge]
theorem VQ(x:Operand)(a:Operand)(l:List UInt8)(b:Nat)(h:P.underlying t=aa .string)(i:b<=l.length):
  cc P H ⟨d,.slice t x aj (aa a) aj,ty,pos,af,g⟩ [.t (.str l),.t (.int .i64 (b:Nat))] (.t (.str (l.take b))):=by
 intro o w X c _ e;refine⟨.string ⟨(l.take b).toArray⟩,?_,.t _ _ (.str _)⟩;have k:c x=_:=iu e.1;have m:c a=_:=dP e.2.1;have n:(ByteArray.mk l.toArray).size=l.length:=by simp[ByteArray.size]
 simp[execOp,k,m,Instr.sliceAt,Instr.slice,run_underlying h,Instr.sliceBounds,n,km w b l.length _ i,Ge]
theorem df.part{w:World}{X:Nat->Prop}{c:List (List T)}{v:Value}(h:df w X (.bE c) v)(a b size:Nat)(U:a<=b)(B:b<=c.length)(o: ∀m,m∈c->m.length=size):
  ∃p k,v= .slice p c.length k/\c.length<=k/\df w X (.bE ((c.take b).drop a)) (.slice (if k=a then p else p.map (·.add (a*size))) (b-a) (k-a)):=by
 cases h with
 |gX p k=>
  have R:a=0:=by simp at B;omega
  have C:b=0:=by simp at B;omega
  subst R;subst C;exact⟨p,k,rfl,aX,by simpa using df.gX _ _⟩
 |bE _ W F l k f C Z q r D I=>
  refine⟨_,k,rfl,q,?_⟩;have n:((c.take b).drop a).length=b-a:=bQ
  by_cases G:a=b
  ·subst G;rw[show(c.take a).drop a=[] by simp];rw[kC];exact .gX _ _
  have K:c≠[]:=by intro e;subst e;simp at B;omega
  obtain⟨Q,s⟩:=EZ c K;have L:l=size:=by rw[<-r Q s,o Q s]
  subst L;rw[aP O];simp only[hv,kU];rw[<-n];refine .bE _ W (F+a*l) l (k-a) (λi j=>f (a+i) j) C Z (by rw[n];omega) (λm y=>o m (gP (fq y))) (λi j M N=>?_) λi j m x A S=>?_
  ·have:=D (a+i) j (by rw[n] at M;omega) N;rw[eu,<-q8] at this;exact this
  refine I (a+i) j m x ?_ S;rw[gZ,g'] at A;split at A
  ·exact A
  cases A
theorem VG(x:Operand)(l:Operand)(e:TypeId)(c:List (List T))(a:Nat)(r:P.underlying t=aa (.slice e))(s:ct P e u z size bytes)(m:a<=c.length)(k: ∀i,i∈c->i.length=size):
  cc P H ⟨d,.slice t x (aa l) aj aj,ty,pos,af,g⟩ [.t (.bE c),.t (.int .i64 (a:Nat))] (.t (.bE (c.drop a))):=by
 intro y w X n _ o;have A:n l=_:=dP o.2.1;have B:bq y w X (.t (.bE c)) (n x):=o.1;cases B with
 |t _ _ h=>
  obtain⟨G,C,F,p,q⟩:=h.part a c.length size m (cR _) k;rw[dW] at q;refine⟨_,?_,.t _ _ q⟩;simp[execOp,F,A,Instr.sliceAt,Instr.slice,run_underlying r,Instr.sliceBounds,km w a c.length _ m,s.run_sizeOf]
theorem Xb(x:Operand)(l:Operand)(e:TypeId)(a:List (List T))(b:Nat)(q:P.underlying t=aa (.slice e))(r:ct P e u z size bytes)(s:b<=a.length)(i: ∀c,c∈a->c.length=size):
  cc P H ⟨d,.slice t x aj (aa l) aj,ty,pos,af,g⟩ [.t (.bE a),.t (.int .i64 (b:Nat))] (.t (.bE (a.take b))):=by
 intro y w X m _ n;have A:m l=_:=dP n.2.1;have B:bq y w X (.t (.bE a)) (m x):=n.1;cases B with
 |t _ _ h=>
  obtain⟨F,k,C,o,p⟩:=h.part 0 b size (Nat.zero_le _) s i;simp only[List.drop_zero] at p;refine⟨_,?_,.t _ _ p⟩;simp[execOp,C,A,Instr.sliceAt,Instr.slice,run_underlying q,Instr.sliceBounds,km w b k _ O,r.run_sizeOf]
theorem YT(x:Operand)(o p:Operand)(e:TypeId)(c:List (List T))(a b:Nat)(s:P.underlying t=aa (.slice e))(y:ct P e u z size bytes)(q:a<=b)(A:b<=c.length)(k: ∀i,i∈c->i.length=size):
  cc P H ⟨d,.slice t x (aa o) (aa p) aj,ty,pos,af,g⟩ [.t (.bE c),.t (.int .i64 (a:Nat)),.t (.int .i64 (b:Nat))] (.t (.bE ((c.take b).drop a))):=by
 intro B w X l _ m;have C:l o=_:=dP m.2.1;have F:l p=_:=dP m.2.2.1;have G:bq B w X (.t (.bE c)) (l x):=m.1;cases G with
 |t _ _ h=>
  obtain⟨Q,n,K,r,L⟩:=h.part a b size q A k;refine⟨_,?_,.t _ _ L⟩;simp[execOp,K,C,F,Instr.sliceAt,Instr.slice,run_underlying s,Instr.sliceBounds,km w b n _ O,km w a b _ q,y.run_sizeOf]
end oV
theorem df.ajU{w:World}{X:Nat->Prop}{a:List (List T)}{e:Option Addr}{n i:Nat}(h:df w X (.bE a) (.slice e n i))(c:Nat)(p:n<=c):df w X (.bE a) (.slice e n c):=by
 cases h with
 |gX=>exact .gX _ c
 |bE _ b k size _ f q r o l m s=>exact .bE a b k size c f q r p l m s
theorem Xo{P:Program}{H:Nat->Option E}{d:Option Tmp}{ty t:TypeId}{pos:String}{af:Array Edge}{g:Option (Nat×Bool)}{u:TypeDesc}{z:Value}{i n:Nat}(x r s:Operand)(e:TypeId)(a:List (List T))(b:Nat)(C:P.underlying t=aa (.slice e))(F:ct P e u z i n)(G:b<=a.length)(l: ∀c,c∈a->c.length=i):
  cc P H ⟨d,.slice t x aj (aa r) (aa s),ty,pos,af,g⟩ [.t (.bE a),.t (.int .i64 (b:Nat)),.t (.int .i64 (b:Nat))] (.t (.bE (a.take b))):=by
 intro K w X m _ o;have L:m r=_:=dP o.2.1;have Q:m s=_:=dP o.2.2.1;have R:bq K w X (.t (.bE a)) (m x):=o.1;cases R with
 |t _ _ h=>
  obtain⟨y,k,W,A,p⟩:=h.part 0 b i (Nat.zero_le _) G l;simp only[List.drop_zero,Nat.zero_mul,Nat.sub_zero] at p;have q:df w X (.bE (a.take b)) (.slice (if b=0 then y else y.map (·.add 0)) b b):=by
   by_cases B:b=0
   ·subst B;exact .gX _ _
   rw[aP (show¬k=0 by omega)] at p;rw[aP B];exact p.ajU b (cR _)
  refine⟨_,?_,.t _ _ q⟩;simp[execOp,W,L,Q,Instr.sliceAt,Instr.slice,run_underlying C,Instr.sliceBounds,km w b k _ O,km w b b _ (Nat.le_refl _),F.run_sizeOf]
section
def rl(h:Map)(w:World)(X:Nat->Prop)(a:List V)(e:List Value):Prop:=e.length=a.length/\ ∀(i:Nat) c u,a[i]? =aa c->e[i]? =aa u->bq h w X c u
variable {w:World}{X:Nat->Prop}{o:Oper}{vals:List V}{v:V}{n:Nat}
theorem rl.nO{W:Map}{a e:List V}{c i:List Value}(h:rl W w X a c)(k:rl W w X e i)(l:Nat)(m:l+e.length<=a.length):
  rl W w X (nO a l e) (c.take l++i++c.drop (l+i.length)):=by refine⟨?_,M7 a e l m c i h.1 k.1 h.2 k.2⟩;have n:=h.1;have eM:=k.1;simp[Lift.nO];omega
theorem PE: ∀(c:List Value) (k a:Nat) (cells:Array Value),a+k+c.length<=cells.size->
  (c.zipIdx k).foldl (λcs (p:Value×Nat)=>cs.setIfInBounds (a+p.2) p.1) cells=(cells.toList.take (a+k)++c++cells.toList.drop (a+k+c.length)).toArray
 | [],k,a,cells,_=>aX
 |v::c,k,a,cells,h=>by simp only[List.zipIdx_cons,List.foldl_cons];simp only[List.length_cons] at h;rw[PE c (k+1) a _ bQ];have e:=list_seg_step cells.toList (a+k) v c bQ;simp only[Array.toList_setIfInBounds,List.length_cons];congr 1
def lN(a:Nat->Option (Nat×Nat))(h:List V):List (Nat×V)->Option (List V)
 | []=>aa h
 |(i,v)::c=>match a i with
  |none=>aj
  |some (e,size)=>bif v.val&&b5 v.cs.length size&&db (e+size) h.length then lN a (nO h e v.cs) c else aj
theorem uU{β:Map}{w:World}{X:Nat->Prop}(a:Nat->Option (Nat×Nat)): ∀(is:List Nat) (k:List V) (C:List Value) (cs:List V) (l:Array Value) (n:List V),rl β w X cs l.toList->dH β w X k C->is.length=k.length->
  lN a cs (is.zip k)=aa n-> ∃o,Instr.fill a l (is.zip C)=aa o/\rl β w X n o.toList
 | [],[],[],cs,l,n,h,_,_,m=>by simp[lN] at m;subst m;exact⟨l,rfl,h⟩
 |i::is,v::k,x::C,cs,l,n,h,A,B,m=>by
  simp only[List.zip_cons_cons,lN] at m;cases G:a i with
  |none=>rw[G] at m;cases m
  |some q=>
   obtain⟨e,size⟩:=q;rw[G] at m;simp only[] at m;cases F:(v.val&&b5 v.cs.length size&&db (e+size) cs.length) with
   |false=>rw[F] at m;cases m
   |true=>
    rw[F,cond_true] at m;simp only[b9] at F;obtain⟨⟨b,cS⟩,Z⟩:=F;have cS:=de cS;have Z:=eP Z;obtain⟨L,f⟩:=A.1.cells b;have j:l.size=cs.length:=by simpa using h.1
    have Q:rl β w X v.cs x.cells.toList:=⟨by simpa using L,λi c u R W=>f i c u R (by simpa using W)⟩
    have r:=h.nO Q e O;have y:x.cells.zipIdx.foldl (λcs (p:Value×Nat)=>cs.setIfInBounds (e+p.2) p.1) l=(l.toList.take e++x.cells.toList++l.toList.drop (e+x.cells.toList.length)).toArray:=by
     rw[<-Array.foldl_toList,Array.toList_zipIdx]
     have:=PE x.cells.toList 0 e l (by simp[L];omega);simpa using this
    obtain⟨o,R,W⟩:=uU a is k C (nO cs e v.cs) (l.toList.take e++x.cells.toList++l.toList.drop (e+x.cells.toList.length)).toArray n (by simpa using r) A.2 (by simpa using B) m;refine⟨o,?_,W⟩;simp only[List.zip_cons_cons,Instr.fill,G];rw[aP (by simp[L];omega),y];exact R
 | [],_::_,_,_,_,_,_,_,B,_=>by simp at B
 |_::_,[],_,_,_,_,_,_,B,_=>by simp at B
 | [],[],_::_,_,_,_,_,A,_,_=>A.elim
 |_::_,_::_,[],_,_,_,_,A,_,_=>A.elim
theorem wR(c:Operand->Value): ∀a:List (Nat×Operand),a.map (λp=>(p.1,c p.2))=(a.map (·.1)).zip ((a.map (·.2)).map c)
 | []=>rfl
 |p::a=>by simp only[List.map_cons,List.zip_cons_cons,wR c a]
def CU(P:Program)(H:Nat->Option E)(o:Oper)(a:List V)(v:V):Prop:=
 ∀(c:Map) (w:World) (X:Nat->Prop) (i:Operand->Value),(∀id e,H id=aa e->cX c w X id e)->(∀b,X b->b<w.heap.size)->
  dH c w X a (o.op.operands.toList.map i)-> ∃u h,(execOp i o).run P w= .ok (.value u) h/\Ext (λ_=>False) w h/\bq c h X v u
theorem cc.g{P:Program}{H:Nat->Option E}(h:cc P H o vals v):CU P H o vals v:=
 λa w X c e _ i=>let ⟨u,k,l⟩:=h a w X c e i;⟨u,w,k,Ext.refl _ _,l⟩
theorem Rel.Kq{K:Ctx}{β:Map}{s:S}{a:Act}(c:Rel K β s a w): ∀b,own K β s.H b->b<w.heap.size:=by
 rintro b (e|⟨id,_,h⟩)
 ·exact mY (c.k9 b e).1 c.ext.size
 exact(c.fresh id b h).2
theorem Lc{K:Ctx}{s:S}(n: ∀i,o.dst=aa i->dt i K.nt=ab)(p:fU (o.op.operands.toList.map s.get) vals)(h:CU K.P s.H o vals v):
  ej K o s (s.put o.dst v):=by
 intro l a w next Q k q
 obtain⟨u,r,c,m,x⟩:=h l w (own K l s.H) a.eval (λid e m=>(k.heap id e m).2) k.Kq ((k.pd _).le p);unfold Oper.wp;rw[c];exact q l _ r ((k.grow m).put o.dst n x)
section ops
variable {P:Program}{H:Nat->Option E}{d:Option Tmp}{ty:TypeId}{pos:String}{af:Array Edge}{g:Option (Nat×Bool)}
variable {t:TypeId}{u:TypeDesc}{z:Value}{size bytes:Nat}
theorem B3(e:Map)(w:World)(X:Nat->Prop)(us:List Value)(n:Nat)(h:us.length=n):rl e w X (dA n .dh) us:=
 ⟨by simp[h],λi c u a _=>by
  rw[uE] at a;split at a
  ·cases a;exact .dh _
  cases a⟩
theorem adP(k:Array (Nat×Operand))(F:Array Field)(a:Array (Nat×Nat))(h l:List V)(G:ct P t (.struct F) z size bytes)
  (L: ∀w,(F.mapM (m:=Sem) λf:Field=>do pure (f.offset,<-sizeOf f.type)).run P w= .ok a w) (Q:(hX z).val=ab) (n:b5 k.toList.length h.length=ab)
  (R:lN (a[·]?) (hX z).cs ((k.toList.map (·.1)).zip h)=aa l):cc P H ⟨d,.build t k,ty,pos,af,g⟩ h (.agg l):=by
 intro q w X o _ W;have r:dH q w X h ((k.toList.map (·.2)).map o):=by simpa[Op.operands] using W
 obtain⟨Z,b⟩:=(zX q w X z).cells Q;obtain⟨y,A,p⟩:=uU (β:=q) (w:=w) (X:=X) (a[·]?) (k.toList.map (·.1)) h _ (hX z).cs z.cells l ⟨by simpa using Z,λi c u A p=>b i c u A (by simpa using p)⟩ r (by simpa using de n) R;refine⟨.agg y,?_,.agg _ _ (by simpa using p.1) λi c u j v=>p.2 i c u j (by simpa using v)⟩;have B:=wR o k.toList;have C:=L w;simp only[execOp,Instr.build,fx,G.uu,fu,run_underlying G.1];rw[C];simp only[fu,Array.toList_map];have e:(k.toList.map λx=>match x with|(i,x)=>(i,o x))=(k.toList.map (·.1)).zip ((k.toList.map (·.2)).map o):=by rw[<-B]
 rw[e,A];rfl
theorem O6(x:Operand)(k:Nat)(B:Array Field)(h:Field)(m:List V)(v:V){a:TypeDesc}{e:Value}{L:Nat}(C:ct P t (.struct B) z size bytes)(F:B[k]? =aa h)(l:ct P h.type a e n L)
  (p:(ll a=ab/\db (h.offset+n) m.length=ab/\v= .agg ((m.drop h.offset).take n))\/(ll a=ak/\m[h.offset]? =aa v)):cc P H ⟨d,.field t x k,ty,pos,af,g⟩ [.agg m] v:=by
 intro b w X G _ o;have Q:bq b w X (.agg m) (G x):=o.1;generalize R:G x=y at Q;cases Q with
 |agg _ q f W=>
  rcases p with ⟨o,j,rfl⟩|⟨o,p⟩
  ·have D:=eP j;refine⟨.agg (q.extract h.offset (h.offset+n)),?_,.agg _ _ bQ λi c u A r=>?_⟩
   ·simp[execOp,R,Instr.field,run_underlying C.1,F,asAgg,part,l.Ev,l.run_sizeOf,o]
   have I:i<n:=by
    have:=(bS.1 A).1;simp at this;omega
   rw[List.getElem?_take_of_lt I,gZ] at A;refine W (h.offset+i) c u A ?_;rw[Array.getElem?_extract] at r;split at r
   ·exact r
   cases r
  have Z:h.offset<q.size:=by rw[f];exact(bS.1 p).1
  refine⟨q[h.offset],?_,W _ v q[h.offset] p (by simp[Z])⟩;simp[execOp,R,Instr.field,run_underlying C.1,F,asAgg,part,l.Ev,o,Z]
theorem LH(n:Nat)(m:Array (Nat×Operand))(e:TypeId)(k:List V)(a:List (List T))(hu:P.underlying t=aa (.slice e))(M:ct P e u z size bytes)(A:b5 m.toList.length k.length=ab)
  (cY:b5 a.length n=ab) (o: ∀c,c∈a->c.length=size) (B:db (n*size) 16777216=ab)
  (ji:lN (λi=>aa (i*size,size)) (dA (n*size) .dh) ((m.toList.map (·.1)).zip k)=aa (a.flatten.map .t)):
  CU P H ⟨d,.buildSlice t n m,ty,pos,af,g⟩ k (.t (.bE a)):=by
 intro N w X C _ iv gI;have W:=de cY;have Z:dH N w X k ((m.toList.map (·.2)).map C):=by simpa[Op.operands] using gI
 have f:=wR C m.toList;obtain⟨l,p,y⟩:=uU (β:=N) (w:=w) (X:=X) (λi=>aa (i*size,size)) (m.toList.map (·.1)) k _ (dA (n*size) .dh)
  ((Array.range (n*size)).map ((if n*size=0 then #[] else z.cells)[· %(if n*size=0 then #[] else z.cells).size]!)) _ (B3 _ _ _ _ _ aX) Z (by simpa using de A) ji
 have F:(execOp C ⟨d,.buildSlice t n m,ty,pos,af,g⟩).run P w= .ok (.value (.slice (aa ⟨w.heap.size,0,aj⟩) n n)) (w.alloc (.cells l e)):=by
  have U:(m.toList.map λx=>match x with|(i,x)=>(i,C x))=(m.toList.map (·.1)).zip ((m.toList.map (·.2)).map C):=by rw[<-f]
  have v: ¬(n*size>2^24):=by have:=eP B;omega
  simp only[execOp,Instr.buildSlice,fx,run_underlying hu,fu,M.run_sizeOf,v,if_false,Array.toList_map];by_cases Q:n*size=0
  ·simp only[Q,if_true] at p;simp only[Q,if_true,kF,fx,fu];rw[U,p];rfl
  simp only[Q,if_false] at p;simp only[Q,if_false,kF,fx,M.uu,fu];rw[U,p];rfl
 refine⟨_,_,F,Ext.alloc _ _ _,.t _ _ ?_⟩;subst W;have q:l.size=a.flatten.length:=by
  have h:=y.1
  grind
 have D:a.flatten.length=a.length*size:=by
  rw[List.length_flatten]
  have:a.map List.length=dA a.length size:=List.eq_replicate_iff.2 ⟨aX,λb v=>by obtain⟨r,b8,rfl⟩:=eA.1 v;exact o r b8⟩;rw[this];simp
 have G: ∀(a:List (List T)),(∀c,c∈a->c.length=size)-> ∀(i j:Nat) (c:List T) (x:T),a[i]? =aa c->c[j]? =aa x->a.flatten[i*size+j]? =aa x:=by
  intro a;induction a with
  |nil=>intro _ i j c x h _;simp at h
  |cons r a nz=>
   intro hs i j c x p y;have b8:=hs r aX;rw[List.flatten_cons];cases i with
   |zero=>
    simp at p;subst p
    have:=(bS.1 y).1;rw[ik,dQ,jq this];exact y
   |succ i=>
    simp at p;rw[iE (by rw[b8,eu];omega)];rw[show(i+1)*size+j-r.length=i*size+j by rw[b8,eu];omega];exact nz (λc h=>hs c (by simp[h])) i j c x p y
 have L: ∀i j,i<a.length->j<size->i*size+j<l.size:=by
  intro i j hi R;rw[q,D]
  have:(i+1)*size<=a.length*size:=eh _ hi
  grind
 refine .bE a w.heap.size 0 size a.length (λi j=>l.getD (i*size+j) undef) aX (λh=>by have:=iv _ h;omega) (cR _) o (λi j hi R=>?_) λi j c x I h4=>?_
 ·rw[dQ,World.cell?_alloc_new]
  have:=L i j hi R;simp[this]
 have h5:=G a o i j c x I h4;have hi:=(bS.1 I).1;have R:j<size:=by rw[<-o c (bx I)];exact(bS.1 h4).1
 have h6:=L i j hi R;have pe:=y.2 (i*size+j) (.t x) l[i*size+j] (by rw[eL,h5];rfl) (by simp[h6]);cases pe with
 |t _ _ h=>
  have:l.getD (i*size+j) undef=l[i*size+j]:=by simp[h6]
  rw[this];exact h.mono (Ext.alloc X _ _) λ_ _ h=>h
end ops
theorem px{i j size:Nat}(a:i<n)(c:j<size):i*size+j<n*size:=by
 have:(i+1)*size<=n*size:=eh _ a
 grind
section ops
variable {K:Ctx}{s:S}{d:Option Tmp}{ty:TypeId}{pos:String}{af:Array Edge}{g:Option (Nat×Bool)}
variable {t:TypeId}{u:TypeDesc}{z:Value}{size bytes:Nat}
theorem Q1(k:Nat)(hk:s.u k=ak)(l c:Operand)(e:TypeId)(m:Nat)(n:List T)(cD: ∀i,d=aa i->dt i K.nt=ab)(hu:K.P.underlying t=aa (.slice e))(he:ct K.P e u z size bytes)
  (cI:s.get l= .t (.int .i64 (m:Nat))) (bT:s.get c= .t (.int .i64 (m:Nat))) (fr:(hX z).cs=n.map .t) (G:(hX z).val=ab) (hs:b5 n.length size=ab) (p:dt 0 size=ab) (hm:m*bytes<=281474976710656) (DB:m<=9223372036854775807):
  ej K ⟨d,.makeSlice t l c,ty,pos,af,g⟩ s ((s.new k (.arr e 1 size (dA m n))).put d (.bg k 1 size 0 m)):=by
 intro L a w next Q Z b
 have R:=Z.get l;rw[cI] at R;have W:=Z.get c;rw[bT] at W;have R:=dP R;have W:=dP W;have q:=de hs;have hp:0<size:=by simpa[Nat.blt_eq] using p
 obtain⟨c1,c2⟩:=(zX L w (own K L s.H) z).cells G;have r:z.cells.size=size:=by rw[c1,fr];simpa using q
 have A:(execOp a.eval ⟨d,.makeSlice t l c,ty,pos,af,g⟩).run K.P w= .ok (.value (.slice (aa ⟨w.heap.size,0,aj⟩) m m)) (w.alloc (.cells ((Array.range (m*size)).map (z.cells[· %z.cells.size]!)) e)):=by
  obtain⟨_,i,f,v,D,vQ⟩:=he;have bb:(i.bytes:Int)*(m:Int)<=281474976710656:=by
   grind
  have:=run_make (P:=K.P) w t e i z hu f v .i64 .i64 m m O (gu _) bb O;simp only[Int.toNat_natCast,D,madeCells] at this;simp only[execOp,R,W,fx,this,fu];rfl
 unfold Oper.wp;rw[A];have B:=Z.new k 1 hk ((Array.range (m*size)).map (z.cells[· %z.cells.size]!)) e (.arr e 1 size (dA m n)) λβ' iM w' hw cY I=>⟨cR _,Or.inr ⟨w.heap.size,_,cY,by subst hw;exact kP _ _,?_,?_,?_⟩⟩
 ·have M:(w.alloc (.cells ((Array.range (m*size)).map (z.cells[· %z.cells.size]!)) e)).heap.size=w.heap.size+1:=World.size_alloc ..;have N:(w.alloc (.cells ((Array.range (m*size)).map (z.cells[· %z.cells.size]!)) e)).shape? w.heap.size=aa (e,m*size):=by unfold hz;rw[kP];simp
  have G:bq (L.put k (aa (aa w.heap.size,1))) (w.alloc (.cells ((Array.range (m*size)).map (z.cells[· %z.cells.size]!)) e)) (own K (L.put k (aa (aa w.heap.size,1))) (s.new k (.arr e 1 size (dA m n))).H) (.bg k 1 size 0 m)
    (.slice (aa ⟨w.heap.size,0*size,aj⟩) m m):= .bg k 1 size 0 m m w.heap.size (m*size) e (cR _) (cd _ _ _) (M▸pF _) N (by rw[dQ]) (cR _) (by unfold maxLen;omega)
  rw[ik] at G;exact b _ _ _ (B.put d cD G)
 ·simp
 ·intro U vS
  grind
 intro i j U x y X hj V;rw[uE] at X;split at X
 ·rename_i ahv;cases X;have o:j<size:=by rw[<-q];exact(bS.1 hj).1
  have C:=px ahv o;simp only[Array.getElem?_map,Array.getElem?_range,C,if_true,hv,Option.some.injEq] at V;have F:(i*size+j)%z.cells.size=j:=by rw[r,Nat.add_comm,Nat.add_mul_mod_self_right,Nat.mod_eq_of_lt o]
  rw[F] at V;have aiy:z.cells[j]? =aa y:=by rw[<-V];rw[getElem!_pos _ _ O];simp[r,o]
  have h3:=c2 j (.t x) y (by rw[fr,eL,hj];rfl) aiy;have h4:=I _ _ h3;cases h4 with|t _ _ h=>exact h
 cases X
def Src(w:World)(X:Nat->Prop)(c:Nat)(a:List (List T))(u:Value):Prop:=
 (u= .slice aj 0 0/\a=[])\/ ∃(b e l:Nat) (k:List Value),u= .slice (aa ⟨b,e,aj⟩) a.length l/\k.length=a.length*c/\
  (∀(j:Nat) x,k[j]? =aa x->w.cell? ⟨b,e+j,aj⟩=aa x)/\(∀x,x∈k->x.oneCell'=ab)/\
  ∀(i j:Nat) (h:List T) (x:T) (y:Value),a[i]? =aa h->h[j]? =aa x->k[i*c+j]? =aa y->df w X x y
theorem df.j7{x:T}{u:Value}(h:df w X x u):u.oneCell'=ab:=by cases h<;>rfl
theorem Bv{M:Map}{size:Nat}{e:List (List T)}{u:Value}(h:bq M w X (.t (.bE e)) u)(G: ∀k,k∈e->k.length=size)(r:0<size):
  Src w X size e u\/(e=[]/\ ∃a l,u= .slice a 0 l):=by
 cases h with
 |t _ _ h=>cases h with
  |gX a l=>exact .inr ⟨rfl,a,l,rfl⟩
  |bE _ b L c l f bb iv v n N D=>
   by_cases A:e=[]
   ·subst A;exact .inr ⟨rfl,_,_,rfl⟩
   obtain⟨I,B⟩:=EZ e A;have Q:c=size:=by rw[<-n I B,G I B]
   subst Q;refine .inl (.inr ⟨b,L,l,(List.range (e.length*c)).map λm=>f (m / c) (m%c),rfl,aX,λj x p=>?_,λx U=>?_,λi j k x y q R F=>?_⟩)
   ·rw[eL] at p;cases o:(List.range (e.length*c))[j]? with
    |none=>rw[o] at p;cases p
    |some W=>
     rw[o] at p;have C:j<e.length*c:=by simpa using (bS.1 o).1
     have Z:W=j:=by rw[List.getElem?_range C] at o;cases o;rfl
     subst Z;simp at p;rw[<-p]
     have:=N (W / c) (W%c) (by rw[w2 r];exact C) (Nat.mod_lt _ r);rw[q8,Nat.mul_comm,Nat.div_add_mod] at this;exact this
   ·obtain⟨m,hm,rfl⟩:=eA.1 U;have hm:=w6.1 hm;have q:m / c<e.length:=by rw[w2 r];exact hm
    have R:=Nat.mod_lt m r;have F:=n e[m / c] (gC q);exact(D (m / c) (m%c) e[m / c] (e[m / c])[m%c] (bp q) (bp O)).j7
   have p:j<c:=by rw[<-n k (bx q)];exact(bS.1 R).1
   have hi:=(bS.1 q).1;rw[eL,List.getElem?_range (px hi p)] at F;simp at F;rw[<-F];have V:(i*c+j) / c=i:=by rw[Nat.mul_comm,Nat.mul_add_div r,Nat.div_eq_of_lt p,sw]
   rw[V,Nat.mod_eq_of_lt p];exact D i j k x q R
end ops
end
variable {W:Map}{k:Nat}{w:World}
theorem Qm{gen:Nat}(q:Option Nat)(c:Option Nat)(i:1<=gen)(h:W k=aa (q,gen)):ed W (W.put k (aa (c,gen+1))):=by
 intro id l m a;by_cases e:id=k
 ·subst e;rw[h] at a;cases a;exact .inr ⟨i,c,gen+1,kp _ _ _,pF _⟩
 exact .inl (by rw[fR _ _ _ _ e];exact a)
theorem xT{K:Ctx}{s:S}{a:Act}(h:Rel K W s a w):Rel K W s a w.drew:=h.grow (Ext.drew _ _)
theorem B4{n size:Nat}{rows news:List (List T)}(e o h:List Value)(p:rows.length=n)(q:e.length=n*size)(G:o.length=news.length*size)(B: ∀a,a∈rows->a.length=size)(r: ∀a,a∈news->a.length=size){R:T->Value->Prop}
  (H: ∀(i j:Nat) (a:List T) (x:T) (u:Value),rows[i]? =aa a->a[j]? =aa x->e[i*size+j]? =aa u->R x u)
  (L: ∀(i j:Nat) (a:List T) (x:T) (u:Value),news[i]? =aa a->a[j]? =aa x->o[i*size+j]? =aa u->R x u):
  ∀(i j:Nat) (a:List T) (x:T) (u:Value),(rows++news)[i]? =aa a->a[j]? =aa x->(e++o++h)[i*size+j]? =aa u->R x u:=by
 intro i j a x u k y C;by_cases l:i<rows.length
 ·rw[jq l] at k;have c:j<size:=by rw[<-B a (bx k)];exact(bS.1 y).1
  have m:i*size+j<e.length:=by rw[q,<-p];exact px l c
  grind
 rw[iE O] at k;have c:j<size:=by rw[<-r a (bx k)];exact(bS.1 y).1
 have w:=(bS.1 k).1;have m:=px (size:=size) w c;have F:e.length<=i*size+j:=by rw[q,<-p];have:=eh size (O:rows.length<=i);omega
 have A:i*size+j-e.length=(i-rows.length)*size+j:=by rw[q,<-p,Nat.sub_mul];have:=eh size (O:rows.length<=i);omega
 grind
section ops
variable {K:Ctx}{s:S}{d:Option Tmp}{ty:TypeId}{pos:String}{af:Array Edge}{g:Option (Nat×Bool)}
variable {t:TypeId}{u:TypeDesc}{z:Value}{gen size bytes:Nat}
def Rows(size:Nat)(rows:List (List T)):Prop:= ∀a,a∈rows->a.length=size
theorem Rows.nil(size:Nat):Rows size []:=λ_ h=>by simp at h
theorem Rows.map{k:Type}{size:Nat}{f:k->List T}(l:List k)(h: ∀x,(f x).length=size):Rows size (l.map f):=λa c=>by obtain⟨x,_,rfl⟩:=eA.1 c;exact h x
theorem OG(R:Nat->V)(k:Nat)(e:TypeId)(G:s.u k=ak)(n: ∀(i q:Map) (w:World) (X W:Nat->Prop) (j:Nat) (u:Value),q k=aa (aj,1)->(∀v u,bq i w X v u->bq q w W v u)->bq i w X (s.t j) u->bq q w W (R j) u):
  s.le K {t:=R,H:=a8 s.H k (aa (.arr e 1 size [])),u:=a8 s.u k ab}:=by
 intro i a w h;have r:i k=aj:=h.eF _ G;have o: ∀id x,i id=aa x->i.put k (aa (aj,1)) id=aa x:=λid x A=>by
  rw[fR _ _ _ _ (by intro e;subst e;rw[r] at A;cases A)];exact A
 have B:=ed.of o;have l: ∀id b,At (i.put k (aa (aj,1))) id b->id≠k/\At i id b:=λid b bb=>by
  by_cases n:id=k
  ·subst n;rcases bb with ⟨g,bb⟩|bb
   ·rw[kp] at bb;cases bb
   exact bB bb (h.e9 _ _ G)
  refine⟨n,?_⟩;rcases bb with ⟨g,bb⟩|bb
  ·rw[fR _ _ _ _ n] at bb;exact .inl ⟨g,bb⟩
  exact .inr bb
 have p: ∀b,own K (i.put k (aa (aj,1))) (a8 s.H k (aa (.arr e 1 size []))) b->own K i s.H b:=by
  rintro b (A|⟨id,y,C⟩)
  ·exact .inl A
  obtain⟨L,Z⟩:=l id b C;rw[cb _ _ _ _ L] at y;exact .inr ⟨id,y,Z⟩
 have Q: ∀v u,bq i w (own K i s.H) v u->bq (i.put k (aa (aj,1))) w (own K (i.put k (aa (aj,1))) (a8 s.H k (aa (.arr e 1 size [])))) v u:=
  λv u f=>f.mono (Ext.refl _ _) (λb _=>p b) B (Shaped.refl _ _)
 refine⟨i.put k (aa (aj,1)),{h with base:= ?_,low:= ?_,eF:= ?_,e9:= ?_,inj:= ?_,fresh:= ?_,heap:= ?_,dC:= ?_}⟩
 ·refine h.base.keep λid hid=>?_
  have:=h.low id hid;rw[fR _ _ _ _ (by intro e;subst e;rw[G] at this;cases this)]
 ·intro id hid;show a8 s.u k ab id=ab;by_cases e:id=k
  ·subst e;exact cd _ _ _
  rw[cb _ _ _ _ e];exact h.low id hid
 ·intro id hid;have c:a8 s.u k ab id=ak:=hid;by_cases e:id=k
  ·subst e;rw[cd] at c;cases c
  rw[cb _ _ _ _ e] at c;rw[fR _ _ _ _ e];exact h.eF id c
 ·intro id b hid;have c:a8 s.u k ab id=ak:=hid;by_cases e:id=k
  ·subst e;rw[cd] at c;cases c
  rw[cb _ _ _ _ e] at c;exact h.e9 id b c
 ·intro id F b y C;exact h.inj id F b (l id b y).2 (l F b C).2
 ·intro id b bb;exact h.fresh id b (l id b bb).2
 ·intro id e' m;have m:a8 s.H k (aa (.arr e 1 size [])) id=aa e':=m;show a8 s.u k ab id=ab/\cX _ _ (own K _ (a8 s.H k (aa (.arr e 1 size [])))) id e';by_cases n:id=k
  ·subst n;rw[cd] at m;cases m;exact⟨cd _ _ _,cR _,Or.inl ⟨cd _ _ _,rfl⟩⟩
  rw[cb _ _ _ _ n] at m;obtain⟨y,C⟩:=h.heap id e' m;exact⟨by rw[cb _ _ _ _ n];exact y,C.mono (Ext.refl _ _) (λb _=>p b) B (o id) (Shaped.refl _ _) λ_ _=>rfl⟩
 intro j;exact n i _ w _ _ j _ (cd _ _ _) Q (h.dC j)
theorem PO{T:Map}{X Z:Nat->Prop}{i:Nat}{u:Value}(a:W k=aa (aj,1))(h:bq T w X (.t .fT) u):bq W w Z (.bg k 1 i 0 0) u:=by
 cases h with
 |t _ _ c=>cases c;exact .iT k 1 i (cR _) a
theorem acL(i k:Nat)(e:TypeId)(l:s.u k=ak)(m:s.t i= .t .fT):s.le K {t:=a8 s.t i (.bg k 1 size 0 0),H:=a8 s.H k (aa (.arr e 1 size [])),u:=a8 s.u k ab}:=
 OG _ k e l (λp n w X q j u o a h=>by
  by_cases c:j=i
  ·subst c;rw[cd];rw[m] at h;exact PO o h
  rw[cb _ _ _ _ c];exact a _ _ h)
theorem aaz(i j k:Nat)(e:TypeId){a:List V}(x:s.u k=ak)(y:s.t i= .agg a)(p:a[j]? =aa (.t .fT)):s.le K {t:=a8 s.t i (.agg (a.set j (.bg k 1 size 0 0))),H:=a8 s.H k (aa (.arr e 1 size [])),u:=a8 s.u k ab}:=
 OG _ k e x (λL A w X Q B u C l h=>by
  by_cases m:B=i
  ·subst m;rw[cd];rw[y] at h;cases h with|agg _ F G q=>
   refine .agg _ F (by simpa using G) λi c u o r=>?_;by_cases n:i=j
   ·subst n;rw[gD (bS.1 p).1] at o;cases o;exact PO C (q i _ u p r)
   rw[js (Ne.symm n)] at o;exact l _ _ (q i c u o r)
  rw[cb _ _ _ _ m];exact l _ _ h)
theorem ZL(x y:Operand)(C i c:Nat)(e:TypeId)(o:List (List T))(l:List T)(m:List T)(hx:s.get x= .cK C gen size i c){v:V}(hle:dN (s.get y) v)(hy:v.cs=m.map .t)(ny:v.val=ab)(Z:s.H C=aa (.arr e gen size o)){A:Nat}(gJ:ct K.P t u z A bytes)
  (B:o[i]? =aa l) (hs:m.length=A) (cI:c+A<=size):
  ej K ⟨aj,.store t x y,ty,pos,af,g⟩ s {s with H:=a8 s.H C (aa (.arr e gen size (o.set i (l.take c++m++l.drop (c+m.length)))))}:=by
 intro β a w next Q W hk
 have f:=W.get x;rw[hx] at f;obtain⟨q,dI⟩:=l8 (W.heap C _ Z).2;obtain⟨b,lA,tL⟩:=qO f dI;subst lA;have bb:=dI;have hi:=(bS.1 B).1;rcases(W.heap C _ Z).2.2 with ⟨_,D⟩|⟨jf,p,h1,D,h3,h4,h5⟩
 ·rw[D] at hi;simp at hi
 rw[bb] at h1;cases h1;obtain⟨c1,c2⟩:=(hle _ _ _ _ (W.get y)).cells ny;rw[hy] at c1 c2;have E:(a.eval y).cells.size=A:=by rw[c1];simpa using hs
 have hrl:l.length=size:=h4 l (bx B);have akG:i*size+size<=p.size:=by
  have:(i+1)*size<=o.length*size:=eh _ hi;rw[eu] at this;omega
 have I: ∀e∈(a.eval y).cells.toList,e.oneCell'=ab:=by
  intro e he;obtain⟨j,hj⟩:=jQ.1 he;have M:(a.eval y).cells[j]? =aa e:=by simpa using hj
  have N:j<m.length:=by have:=(kB.1 M).1;rw[c1] at this;simpa using this
  exact(c2 j (.t m[j]) e (by simp[N]) M).j7 rfl
 unfold Oper.wp;have U:=FC gJ w b (i*size+c) p e (a.eval y) D E O I;have L:(execOp a.eval ⟨aj,.store t x y,ty,pos,af,g⟩).run K.P w= .ok .skip (w.setRow b (p.toList.take (i*size+c)++(a.eval y).cells.toList++p.toList.drop (i*size+c+(a.eval y).cells.toList.length)).toArray):=by
  simp only[execOp,tL,Instr.storeAt,Instr.sureAddr,fx,kF,fu,U]
 rw[L];have J1:(a.eval y).cells.toList.length=m.length:=by simp[c1]
 have F:(p.toList.take (i*size+c)++(a.eval y).cells.toList++p.toList.drop (i*size+c+(a.eval y).cells.toList.length)).length=p.size:=by
  simp[E];omega
 refine hk β _ _ (Rel.setRow W C b (.inl ⟨_,bb⟩) p e D _ (by simpa using F) (.arr e gen size (o.set i (l.take c++m++l.drop (c+m.length)))) (by rw[Z];simp) ?_);have mI:own K β s.H b:= .inr ⟨C,by rw[Z];simp,.inl ⟨_,bb⟩⟩;have R: ∀x u,df w (own K β s.H) x u->df (w.setRow b (p.toList.take (i*size+c)++(a.eval y).cells.toList++p.toList.drop (i*size+c+(a.eval y).cells.toList.length)).toArray) (own K β s.H) x u:=by
  intro v u bW;exact bW.mono ⟨rfl,rfl,rfl,aX,λk _ hx=>setRow_other _ _ _ _ λe=>hx (e▸mI)⟩ λ_ _ h=>h
 have SJ:(l.take c++m++l.drop (c+m.length)).length=size:=bQ
 refine⟨(W.heap C _ Z).2.1,Or.inr ⟨b,_,bb,setRow_heap _ _ _ _ _ _ D,?_,?_,?_⟩⟩
 ·simp only[List.size_toArray,F,List.length_set];exact h3
 ·intro r ah6;rcases uI ah6 with h|h
  ·exact h4 r h
  rw[h];exact SJ
 intro n j G kD X aN a2 a3;apply R;have a3:(p.toList.take (i*size+c)++(a.eval y).cells.toList++p.toList.drop (i*size+c+(a.eval y).cells.toList.length))[n*size+j]? =aa X:=by simpa using a3
 simp only[List.getElem?_append,im,k',List.getElem?_take,List.getElem?_drop,Array.length_toList] at a3;rw[show min (i*size+c) p.size=i*size+c by omega,show(a.eval y).cells.size=m.length by simpa using J1] at a3;by_cases yT:n=i
 ·subst yT;rw[gD hi] at aN;cases aN;have hjs:j<size:=by rw[<-SJ];exact(bS.1 a2).1
  simp only[List.getElem?_append,im,k',List.getElem?_take,List.getElem?_drop,hrl] at a2;rw[show min c size=c by omega] at a2;by_cases dc:j<c
  ·rw[aR O,aR dc,aR dc] at a2;rw[aR O,aR O,aR O] at a3;exact h5 n j l kD X B a2 (by simpa using a3)
  by_cases cS:j<c+m.length
  ·rw[aR O,aP dc] at a2;rw[aR O,aP O] at a3;rw[show n*size+j-(n*size+c)=j-c by omega] at a3;have h9:=c2 (j-c) (.t kD) X (by rw[eL,a2];rfl) (by simpa using a3);cases h9 with|t _ _ h=>exact h
  rw[aP O] at a2;rw[aP O] at a3;rw[show c+m.length+(j-(c+m.length))=j by omega] at a2;rw[show n*size+c+m.length+(n*size+j-(n*size+c+m.length))=n*size+j by omega] at a3;exact h5 n j l kD X B a2 (by simpa using a3)
 rw[js (Ne.symm yT)] at aN;have hjs:j<size:=by rw[<-h4 G (bx aN)];exact(bS.1 a2).1
 have hold:p[n*size+j]? =aa X:=by
  rcases Nat.lt_or_ge n i with N|kr
  ·have:n*size+size<=i*size:=by have:=eh size (O:n+1<=i);rw[eu] at this;omega
   rw[aR O,aR O,aR O] at a3;simpa using a3
  have:i*size+size<=n*size:=by have:=eh size (O:i+1<=n);rw[eu] at this;omega
  rw[aP O] at a3;rw[show i*size+c+m.length+(n*size+j-(i*size+c+m.length))=n*size+j by omega] at a3;simpa using a3
 exact h5 n j G kD X aN a2 hold
end ops
end Go.Lift
