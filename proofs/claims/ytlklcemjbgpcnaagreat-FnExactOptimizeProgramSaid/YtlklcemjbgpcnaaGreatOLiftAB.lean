/- Tools. -/
import Derived.Tactics
import Derived.Deep.Quiet
import Derived.Laws.World
import Derived.Laws.Sem
import Derived.WalkKit
namespace Go.Lift
open Go
abbrev bR:=@decide_eq_false
abbrev bU:=@decide_eq_true
abbrev bb.{u}:=@if_pos.{u}
abbrev a8.{u}:=@if_neg.{u}
abbrev bs.{u}:=@absurd.{u}
abbrev fv:=@of_decide_eq_true
open Option renaming some -> aa, none -> aj, map_some -> gS
open Bool renaming true -> ab, false -> ak, and_eq_true -> cx
open Decidable renaming decide -> ai
open List renaming length_append -> hn, length_take -> kI, length_cons -> j5, replicate -> dE, range -> gi
open Go.Result renaming andThen_ok -> fc
open Go.World renaming shape? -> gj
open Go.Sem renaming run_bind -> fo, run_pure -> j6
open Nat renaming beq -> cc, blt -> dw, ble -> dD
section
variable {p:Prop}{X W X':Nat->Prop}{a b c w w':World}{v u:Value}{m:Option Nat}{i j k n sz:Nat}
theorem O(h:p:=by omega):p:=h
theorem Z(h:p:=by dsimp only;omega):p:=h
theorem J(h:p:=by kernel_rfl):p:=h
theorem a7(h:p:=by simp):p:=h
theorem b6(h:p:=by simp;omega):p:=h
abbrev bu.{u}:=@List.getElem?_eq_getElem.{u}
abbrev b5.{u}:=@List.getElem?_eq_some_iff.{u}
abbrev bT.{u}:=@List.mem_of_getElem?.{u}
abbrev m0:=@Nat.eq_of_beq_eq_true
abbrev c8:=@Int.toNat_natCast
abbrev dm.{u}:=@List.length_append.{u}
abbrev c7.{u}:=@List.length_take.{u}
abbrev dU:=@Nat.mul_le_mul_right
abbrev fh.{u}:=@List.getD_eq_getElem?_getD.{u}
abbrev dR.{u}:=@List.take_length.{u}
abbrev dJ.{u,v}:=@List.length_map.{u,v}
abbrev eZ.{u}:=@List.mem_cons_of_mem.{u}
abbrev da:=@Nat.le_refl
abbrev fg:=@Nat.le_of_ble_eq_true
abbrev eE.{u}:=@List.take_add_one.{u}
abbrev eQ.{u,v}:=@List.getElem?_map.{u,v}
abbrev dI:=@Nat.zero_add
abbrev d'.{u}:=@List.mem_cons.{u}
abbrev fN.{u}:=@List.mem_of_mem_drop.{u}
abbrev ff.{u}:=@List.mem_cons_self.{u}
abbrev h8.{u}:=@Array.getElem?_eq_getElem.{u}
abbrev iR.{u}:=@Array.getElem?_eq_some_iff.{u}
abbrev hi.{u}:=@List.take_of_length_le.{u}
abbrev eY.{u}:=@List.mem_append.{u}
abbrev jr.{u}:=@List.getElem?_append_right.{u}
abbrev fF.{u}:=@List.append_assoc.{u}
abbrev gP.{u}:=@List.mem_of_mem_take.{u}
abbrev gq.{u}:=@List.getElem?_drop.{u}
abbrev ed:=@Nat.add_mul
abbrev jI.{u}:=@List.getElem?_append_left.{u}
abbrev jJ.{u}:=@List.drop_eq_getElem_cons.{u}
abbrev gC.{u}:=@List.getElem?_take.{u}
abbrev iQ.{u}:=@List.getElem?_set_self.{u}
abbrev fY.{u}:=@List.length_drop.{u}
abbrev gg.{u}:=@List.getElem_mem.{u}
abbrev eK.{u,v}:=@List.mem_map.{u,v}
abbrev eR:=@Nat.le_trans
abbrev gD.{u}:=@List.all_eq_true.{u}
abbrev gr.{u}:=@List.length_set.{u}
abbrev ns.{u}:=@List.eq_nil_of_length_eq_zero.{u}
abbrev j1.{u}:=@List.mem_iff_getElem?.{u}
abbrev kE.{u}:=@List.drop_eq_nil_of_le.{u}
abbrev gh:=@Bool.true_and
abbrev hK:=@Bool.eq_iff_iff
abbrev h7.{u,v}:=@List.map_append.{u,v}
abbrev lb.{u}:=@List.getElem?_of_mem.{u}
abbrev jo.{u}:=@List.any_eq_true.{u}
abbrev mv.{u}:=@List.set_append_right.{u}
abbrev jq.{u}:=@List.append_nil.{u}
abbrev gQ:=@Nat.zero_mul
abbrev mw.{u}:=@List.getElem?_set_ne.{u}
abbrev nu.{u}:=@List.length_singleton.{u}
abbrev lN:=@Nat.lt_of_lt_of_le
abbrev lO.{u}:=@List.mem_singleton.{u}
abbrev r1.{u}:=@List.take_append_of_le_length.{u}
abbrev gR:=@Int.le_refl
abbrev r2.{u}:=@Array.getD_eq_getD_getElem?.{u}
abbrev nv.{u,v}:=@List.flatMap_append.{u,v}
abbrev mx.{u}:=@List.all_eq_false.{u}
abbrev po.{u}:=@List.mem_append_right.{u}
abbrev kF:=@Bool.and_false
abbrev pq.{u}:=@List.mem_append_left.{u}
abbrev qv.{u}:=@Array.getElem?_toList.{u}
abbrev qw.{u}:=@List.take_append_drop.{u}
abbrev pr.{u}:=@Array.length_toList.{u}
abbrev ps.{u}:=@List.drop_set_of_lt.{u}
abbrev oj:=@Nat.lt_of_not_le
abbrev my:=@Bool.and_assoc
abbrev ui.{u}:=@List.getElem?_replicate.{u}
abbrev qx.{u}:=@List.filter_append.{u}
abbrev xd.{u}:=@List.mem_or_eq_of_mem_set.{u}
abbrev om:=@List.range_succ
abbrev pt:=@Nat.lt_succ_self
abbrev lP:=@Nat.sub_self
abbrev oo:=@Nat.mul_le_mul
abbrev oq.{u}:=@List.drop_zero.{u}
abbrev pv:=@Nat.not_lt_zero
abbrev r3.{u}:=@List.set_cons_zero.{u}
abbrev rW.{u}:=@List.pairwise_cons.{u}
abbrev qq:=@Bool.and_eq_true
abbrev qs.{u}:=@List.drop_length.{u}
abbrev w9.{u}:=@List.length_eq_one_iff.{u}
abbrev pn:=@Int.mul_nonneg
abbrev xa:=@Nat.div_lt_iff_lt_mul
abbrev rX.{u}:=@List.length_cons.{u}
abbrev ES.{u}:=@List.mem_zipIdx_iff_getElem?.{u}
abbrev qt:=@List.mem_range
abbrev oi.{u}:=@List.set_set.{u}
abbrev rY.{u}:=@List.nil_append.{u}
abbrev uf.{u,v}:=@List.mem_flatMap.{u,v}
abbrev qu:=@Nat.add_assoc
abbrev xb.{u}:=@List.mem_replicate.{u}
abbrev K4.{u}:=@List.findIdx?_eq_some_iff_getElem.{u}
abbrev ET.{u}:=@List.exists_mem_of_ne_nil.{u}
abbrev rZ:=@Int.mul_le_mul
abbrev ug:=@Nat.min_eq_left
abbrev uh.{u}:=@List.any_append.{u}
abbrev K5.{u}:=@Array.eq_empty_of_size_eq_zero.{u}
abbrev EU.{u,v}:=@Option.bind_eq_some_iff.{u,v}
abbrev xc.{u,v}:=@Array.toList_map.{u,v}
abbrev K6.{u}:=@List.drop_append_of_le_length.{u}
abbrev EV.{u}:=@List.drop_of_length_le.{u}
abbrev r0:=@Nat.add_zero
abbrev EW.{u}:=@List.getElem?_eq_none.{u}
abbrev EX.{u}:=@List.length_replicate.{u}
abbrev EY.{u}:=@List.length_filter_le.{u}
abbrev uj.{u,v}:=@List.map_take.{u,v}
abbrev z'.{u,v}:=@List.flatMap_cons.{u,v}
abbrev EZ:=@Int.toNat_of_nonneg
abbrev E1.{u,v,w}:=@List.length_zipWith.{u,v,w}
inductive T where
  |bool (b:Bool)
  |int (k:IntKind) (n:Int)
  |str (s:List UInt8)
  |bE (rows:List (List T))
  |fp
  |gM
  |gn
  |mm
  |err
  deriving Inhabited
inductive V where
  |t (x:T)
  |agg (cs:List V)
  |bX (vs:List V)
  |ref (id off:Nat)
  |aS (cells:List T)
  |bo (id gen size off len:Nat)
  |cR (id gen size i off:Nat)
  |fn (f:FuncId) (ak0:List V)
  |dp
  deriving Inhabited
structure dM where
  ty:TypeId
  size:Nat
  bm:List (Nat×Nat)
def vm:List (Nat×Nat)->Nat->Option Nat
  | [],_=>aj
  |p::l,j=>bif cc p.1 j then aa p.2 else vm l j
def dM.ej(d:dM)(j:Nat):Option Nat:=vm d.bm j
def akn:dM:=⟨0,0,[]⟩
def aR(Γ:List dM)(m:Nat):dM:=Γ.getD m akn
inductive E where
  |cells (cs:List V)
  |arr (ty:TypeId) (gen size:Nat) (rows:List (List T))
  |aN (Γ:List dM) (m gen:Nat) (rows:List (List T)) (open_:List (Nat×Nat×V))
structure Map where
  f:Nat->Option (Option Nat×Nat)
  n:Nat->Nat->Prop
instance:CoeFun Map (λ_=>Nat->Option (Option Nat×Nat)):=⟨Map.f⟩
def At(a:Map)(c b:Nat):Prop:=(∃g,a c=aa (aa b,g))\/a.n c b
def dX(c a:Map):Prop:= ∀id q g,c id=aa (q,g)->a id=aa (q,g)\/(1<=g/\ ∃e b,a id=aa (e,b)/\g<b)
theorem dX.refl(β:Map):dX β β:=λ_ _ _ h=> .inl h
variable {β G β':Map}{t:List dM}{e:E}
theorem dX.of(h: ∀id x,β id=aa x->G id=aa x):dX β G:=λ_ _ _ a=> .inl (h _ _ a)
structure Ext (X:Nat->Prop) (w w':World):Prop where
  os:w'.os=w.os
  tape:w'.tape=w.tape
  output:w'.output=w.output
  size:w.heap.size<=w'.heap.size
  keep: ∀b,b<w.heap.size-> ¬X b->w'.heap[b]? =w.heap[b]?
theorem Ext.refl(X:Nat->Prop)(w:World):Ext X w w:=⟨rfl,rfl,rfl,da _,λ_ _ _=>rfl⟩
theorem Ext.trans(h:Ext X a b)(k:Ext X b c):Ext X a c:=
  ⟨k.os.trans h.os,k.tape.trans h.tape,k.output.trans h.output,eR h.size k.size,
   λi e l=>(k.keep i (lN e h.size) l).trans (h.keep i e l)⟩
theorem Ext.trans'(h:Ext X a b)(k:Ext (λi=> ¬(i<a.heap.size/\ ¬X i)) b c):Ext X a c:=
  ⟨k.os.trans h.os,k.tape.trans h.tape,k.output.trans h.output,eR h.size k.size,
   λi e l=>(k.keep i (lN e h.size) λm=>m ⟨e,l⟩).trans (h.keep i e l)⟩
theorem Ext.weaken(h:Ext X a b)(e: ∀i,i<a.heap.size->X i->W i):Ext W a b:=
  ⟨h.os,h.tape,h.output,h.size,λi c k=>h.keep i c λl=>k (e i c l)⟩
theorem Ext.drew(X:Nat->Prop)(w:World):Ext X w w.drew:=⟨rfl,rfl,rfl,da _,λ_ _ _=>rfl⟩
theorem heap_alloc(w:World)(o:Obj)(k:Nat)(h:k<w.heap.size):(w.alloc o).heap[k]? =w.heap[k]? :=by
  show(w.heap.push o)[k]? =_
  grind
theorem jQ(w:World)(o:Obj):(w.alloc o).heap[w.heap.size]? =aa o:=by show(w.heap.push o)[w.heap.size]? =_;simp
theorem Ext.alloc(X:Nat->Prop)(w:World)(o:Obj):Ext X w (w.alloc o):=
  ⟨rfl,rfl,rfl,a7,λk a _=>heap_alloc _ _ _ a⟩
theorem tz{b:Nat}(h:a.heap[b]? =w.heap[b]?):a.shape? b=w.shape? b:=by unfold gj;rw[h]
def Shaped(_β:Map)(w a:World):Prop:= ∀b,b<w.heap.size->a.shape? b=w.shape? b
theorem Shaped.refl(β:Map)(w:World):Shaped β w w:=λ_ _=>rfl
theorem f8(e:Ext (λ_=>False) w w'):Shaped G w w':=λb a=>tz (e.keep b a λh=>h)
theorem YF(w:World)(a:Addr)(u:Value)(k:Nat)(h:k≠a.block):(w.setCell a u).heap[k]? =w.heap[k]? :=by
  simp only[World.setCell,Array.getElem?_modify]
  grind
theorem Ext.setCell(w:World)(a:Addr)(u:Value)(h:X a.block):Ext X w (w.setCell a u):=
  ⟨rfl,rfl,rfl,a7,λk _ b=>YF _ _ _ _ λe=>b (e▸h)⟩
theorem FI{a:Addr}(h:b.heap[a.block]? =w.heap[a.block]?):b.cell? a=w.cell? a:=by unfold World.cell?;rw[h]
inductive cV (w:World) (X:Nat->Prop):T->Value->Prop where
  |bool (b:Bool):cV w X (.bool b) (.bool b)
  |int (k:IntKind) (n:Int):cV w X (.int k n) (.int k n)
  |str (l:List UInt8):cV w X (.str l) (.string ⟨l.toArray⟩)
  |fW (a:Option Addr) (cap:Nat):cV w X (.bE []) (.slice a 0 cap)
  |bE (rows:List (List T)) (b off size cap:Nat) (f:Nat->Nat->Value) (a1:b<w.heap.size) (gZ: ¬X b) (J6:rows.length<=cap)
      (lA: ∀row,row∈rows->row.length=size)
      (bS: ∀i j,i<rows.length->j<size->w.cell? ⟨b,off+i*size+j,aj⟩=aa (f i j))
      (b8: ∀(i j:Nat) (row:List T) (x:T),rows[i]? =aa row->row[j]? =aa x->cV w X x (f i j)):
      cV w X (.bE rows) (.slice (aa ⟨b,off,aj⟩) rows.length cap)
  |fp:cV w X .fp (.slice aj 0 0)
  |gM:cV w X .gM (.pointer aj)
  |gn:cV w X .gn .nilIface
  |mm:cV w X .mm .nilFunc
  |err (t:TypeId) (v:Value):cV w X .err (.iface t v)
theorem cV.mono{x:T}(h:cV w X x v)(e:Ext X w w')(A: ∀b,b<w.heap.size->W b->X b):cV w' W x v:=by
  induction h with
  |bool b=>exact .bool b
  |int k n=>exact .int k n
  |str l=>exact .str l
  |fW a c=>exact .fW a c
  |bE m b r o c f s p q y B _ C=>
    exact .bE m b r o c f (lN s e.size) (λh=>p (A b s h)) q y
      (λi j D F=>by rw[FI (w:=w) (e.keep b s p)];exact B i j D F) (λi j z x G K=>C i j z x G K)
  |fp=>exact .fp
  |gM=>exact .gM
  |gn=>exact .gn
  |mm=>exact .mm
  |err t v=>exact .err t v
inductive bt (β:Map) (w:World) (X:Nat->Prop):V->Value->Prop where
  |t (x:T) (v:Value):cV w X x v->bt β w X (.t x) v
  |agg (cs:List V) (us:Array Value) (cC:us.size=cs.length) (h: ∀(i:Nat) c u,cs[i]? =aa c->us[i]? =aa u->bt β w X c u):bt β w X (.agg cs) (.agg us)
  |bX (cs:List V) (us:Array Value) (cC:us.size=cs.length) (h: ∀(i:Nat) c u,cs[i]? =aa c->us[i]? =aa u->bt β w X c u):bt β w X (.bX cs) (.tuple us)
  |ref (id off b:Nat) (a1:β id=aa (aa b,0)):bt β w X (.ref id off) (.pointer (aa ⟨b,off,aj⟩))
  |aS (cells:List T) (b off:Nat) (f:Nat->Value) (a1:b<w.heap.size) (gZ: ¬X b)
      (bS: ∀j,j<cells.length->w.cell? ⟨b,off+j,aj⟩=aa (f j))
      (b8: ∀(j:Nat) (x:T),cells[j]? =aa x->cV w X x (f j)):bt β w X (.aS cells) (.pointer (aa ⟨b,off,aj⟩))
  |bo (id gen size off len cap b n:Nat) (ty:TypeId) (bV:1<=gen) (a1:β id=aa (aa b,gen)) (hw:b<w.heap.size) (hs:w.shape? b=aa (ty,n)) (cK:(off+cap)*size=n) (cC:len<=cap) (hm:cap<=maxLen):
      bt β w X (.bo id gen size off len) (.slice (aa ⟨b,off*size,aj⟩) len cap)
  |hb (id gen size:Nat) (bV:1<=gen) (a1:β id=aa (aj,gen)):bt β w X (.bo id gen size 0 0) (.slice aj 0 0)
  |ks (id gen size off len:Nat) (v:Value) (q:Option Nat) (g:Nat) (et:v.oneCell'=ab) (a1:β id=aa (q,g)) (bV:gen<g):bt β w X (.bo id gen size off len) v
  |cR (id gen size i off b:Nat) (bV:1<=gen) (a1:β id=aa (aa b,gen)):bt β w X (.cR id gen size i off) (.pointer (aa ⟨b,i*size+off,aj⟩))
  |ls (id gen size i off:Nat) (v:Value) (q:Option Nat) (g:Nat) (et:v.oneCell'=ab) (a1:β id=aa (q,g)) (bV:gen<g):bt β w X (.cR id gen size i off) v
  |fn (f:FuncId) (cs:List V) (us:Array Value) (cC:us.size=cs.length) (h: ∀(i:Nat) c u,cs[i]? =aa c->us[i]? =aa u->bt β w X c u):
      bt β w X (.fn f cs) (.func (.func f) #[] us)
  |dp (v:Value):bt β w X .dp v
theorem bt.mono{x:V}(h:bt β w X x v)(e:Ext X w w')(C: ∀b,b<w.heap.size->X' b->X b)
    (m:dX β β') (D:Shaped β w w'):bt β' w' X' x v:=by
  induction h with
  |t x v h=>exact .t x v (h.mono e C)
  |agg cs y s _ z=>exact .agg cs y s z
  |bX cs y s _ z=>exact .bX cs y s z
  |ref id c b k=>
    rcases m _ _ _ k with h|⟨h,_⟩
    · exact .ref id c b h
    · omega
  |aS cells b c f k A K L=>
    exact .aS cells b c f (lN k e.size) (λh=>A (C b k h)) (λj Q=>by rw[FI (w:=w) (e.keep b k A)];exact K j Q)
      (λj x h=>(L j x h).mono e C)
  |bo id gen a c len F b n ty o k G R W s u=>
    rcases m _ _ _ k with h|⟨_,p,r,h,l⟩
    · exact .bo id gen a c len F b n ty o h (lN G e.size) (by rw[D b G];exact R) W s u
    · exact .ks id gen a c len _ p r rfl h l
  |hb id gen a o k=>
    rcases m _ _ _ k with h|⟨_,p,r,h,l⟩
    · exact .hb id gen a o h
    · exact .ks id gen a 0 0 _ p r rfl h l
  |ks id gen a c len v q g B k o=>
    rcases m _ _ _ k with h|⟨_,p,r,h,l⟩
    · exact .ks id gen a c len v q g B h o
    · exact .ks id gen a c len v p r B h O
  |cR id gen a i c b o k=>
    rcases m _ _ _ k with h|⟨_,p,r,h,l⟩
    · exact .cR id gen a i c b o h
    · exact .ls id gen a i c _ p r rfl h l
  |ls id gen a i c v q g B k o=>
    rcases m _ _ _ k with h|⟨_,p,r,h,l⟩
    · exact .ls id gen a i c v q g B h o
    · exact .ls id gen a i c v p r B h O
  |fn f cs y s _ z=>exact .fn f cs y s z
  |dp v=>exact .dp v
inductive gk (Γ:List dM) (w:World) (X:Nat->Prop):Option Nat->T->Value->(Nat->Prop)->Prop where
  |fs (x:T) (v:Value) (N:Nat->Prop) (h:cV w X x v) (eW: ∀c,¬N c):gk Γ w X aj x v N
  |nil (m:Nat) (N:Nat->Prop) (eW: ∀c,¬N c):gk Γ w X (aa m) (.bE []) (.slice aj 0 0) N
  |own (m:Nat) (rows:List (List T)) (b cap:Nat) (us:Array Value) (B:Nat->Nat->Nat->Prop) (N:Nat->Prop)
      (hw:w.heap[b]? =aa (.cells us (aR Γ m).ty (0,0))) (hs:us.size=cap*(aR Γ m).size) (hm:cap<=maxLen) (cC:rows.length<=cap)
      (lA: ∀row,row∈rows->row.length=(aR Γ m).size)
      (b8: ∀(i j:Nat) (row:List T) (x:T) (u:Value),rows[i]? =aa row->row[j]? =aa x->us[i*(aR Γ m).size+j]? =aa u->gk Γ w X ((aR Γ m).ej j) x u (B i j))
      (dQ: ∀i j c,B i j c->i<rows.length/\j<(aR Γ m).size/\c≠b)
      (cO: ∀i j jd ey c,B i j c->B jd ey c->i=jd/\j=ey)
      (eW: ∀c,N c↔c=b\/ ∃i j,B i j c):
      gk Γ w X (aa m) (.bE rows) (.slice (aa ⟨b,0,aj⟩) rows.length cap) N
theorem gk.mono{x:T}{N:Nat->Prop}(h:gk t w X m x v N)(e:Ext X w w')(r: ∀b,b<w.heap.size->W b->X b)
    (q: ∀b,N b->w'.heap[b]? =w.heap[b]?):gk t w' W m x v N:=by
  induction h with
  |fs x v N h a=>exact .fs x v N (h.mono e r) a
  |nil m N a=>exact .nil m N a
  |own m k b n s B N y l z A o R C D a F=>
    refine .own m k b n s B N ?_ l z A o (λi j p x u G K L=>F i j p x u G K L λc Q=>q c ((a c).2 (.inr ⟨i,j,Q⟩))) C D a;rw[q b ((a b).2 (.inl rfl))];exact y
theorem gk.iff{x:T}{N:Nat->Prop}(h:gk t w X m x v N)(a: ∀c,W c↔N c):gk t w X m x v W:=by
  cases h with
  |fs _ _ _ h e=>exact .fs _ _ _ h (λc k=>e c ((a c).1 k))
  |nil _ _ e=>exact .nil _ _ (λc k=>e c ((a c).1 k))
  |own m i b l o B _ p q r s n y z A e=>exact .own m i b l o B _ p q r s n y z A λc=>(a c).trans (e c)
theorem gk.lt{x:T}{N:Nat->Prop}(h:gk t w X m x v N): ∀c,N c->c<w.heap.size:=by
  induction h with
  |fs _ _ _ _ a=>exact λc e=>bs e (a c)
  |nil _ _ a=>exact λc e=>bs e (a c)
  |own m k b l q B N r s C D n F y G a z=>
    intro c e;rcases(a c).1 e with rfl|⟨i,j,o⟩
    · exact(iR.1 r).1
    · obtain⟨p,K,_⟩:=y i j c o;have L:=n _ (gg p);have A:i*(aR t m).size+j<q.size:=by
        rw[s]
        have:(i+1)*(aR t m).size<=l*(aR t m).size:=dU _ O;rw[ed] at this;omega
      exact z i j _ (k[i][j]' O) _ (bu p) (bu O) (h8 A) c o
theorem gk.wW{x:T}{N:Nat->Prop}(h:gk t w X m x v N)(A: ∀b,W b->X b)(l: ∀b,N b-> ¬W b):cV w W x v:=by
  induction h with
  |fs x v N h q=>exact h.mono (Ext.refl _ _) (λb _=>A b)
  |nil m N q=>exact .fW _ _
  |own m n b e k B N s y L C o Q R f q D=>
    refine .bE n b 0 (aR t m).size e (λi j=>k.getD (i*(aR t m).size+j) undef) (iR.1 s).1 (l b ((q b).2 (.inl rfl))) C o (λi j aJ F=>?_) λi j p x r z=>?_
    · have a:i*(aR t m).size+j<k.size:=by
        rw[y]
        have:(i+1)*(aR t m).size<=e*(aR t m).size:=dU _ O;rw[ed] at this;omega
      simp[World.cell?,s,a]
    · have aJ:=(b5.1 r).1;have F:j<(aR t m).size:=by rw[<-o p (bT r)];exact(b5.1 z).1
      have a:i*(aR t m).size+j<k.size:=by
        rw[y]
        have:(i+1)*(aR t m).size<=e*(aR t m).size:=dU _ O;rw[ed] at this;omega
      have G:k.getD (i*(aR t m).size+j) undef=k[i*(aR t m).size+j]:=by simp[a]
      show cV w W x (k.getD (i*(aR t m).size+j) undef);rw[G];exact D i j p x _ r z (h8 a) λc K=>l c ((q c).2 (.inr ⟨i,j,K⟩))
def Cell(a:List dM)(m:Nat)(b:List (Nat×Nat×V))(β:Map)(w:World)(X:Nat->Prop)(i j:Nat)(x:T)(u:Value)(N:Nat->Prop):Prop:=
  (∀v,(i,j,v)∈b->bt β w X v u/\ ∀c,¬N c)/\((∀v,(i,j,v)∉b)->gk a w X ((aR a m).ej j) x u N)
theorem Cell.mono{m:Nat}{S:List (Nat×Nat×V)}{x:T}{N:Nat->Prop}(h:Cell t m S β w X i j x u N)
    (e:Ext X w w') (l: ∀b,b<w.heap.size->W b->X b) (a:dX β β') (c:Shaped β w w') (k: ∀b,N b->w'.heap[b]? =w.heap[b]?):Cell t m S β' w' W i j x u N:=
  ⟨λv n=>⟨(h.1 v n).1.mono e l a c,(h.1 v n).2⟩,λo=>(h.2 o).mono e l k⟩
theorem Cell.none{m:Nat}{x:T}{N:Nat->Prop}(h:Cell t m [] β w X i j x u N):gk t w X ((aR t m).ej j) x u N:=h.2 λ_ a=>List.not_mem_nil a
theorem Cell.of{m:Nat}{x:T}{N:Nat->Prop}(h:gk t w X ((aR t m).ej j) x u N):Cell t m [] β w X i j x u N:=⟨λ_ a=>bs a List.not_mem_nil,λ_=>h⟩
def cY(β:Map)(w:World)(X:Nat->Prop)(l:Nat):E->Prop
  | .cells cs=> ∃(b:Nat) (h:Array Value) (ty:TypeId),β l=aa (aa b,0)/\w.heap[b]? =aa (.cells h ty (0,0))/\h.size=cs.length/\
      ∀(i:Nat) c u,cs[i]? =aa c->h[i]? =aa u->bt β w X c u
  | .arr ty gen k a=>1<=gen/\((β l=aa (aj,gen)/\a=[])\/ ∃(b:Nat) (h:Array Value),β l=aa (aa b,gen)/\w.heap[b]? =aa (.cells h ty (0,0))/\
      a.length*k<=h.size/\(∀e,e∈a->e.length=k)/\
      ∀(i j:Nat) (e:List T) (x:T) (u:Value),a[i]? =aa e->e[j]? =aa x->h[i*k+j]? =aa u->cV w X x u)
  | .aN o m gen a r=>1<=gen/\((β l=aa (aj,gen)/\a=[]/\(∀c,¬β.n l c))\/ ∃(b:Nat) (h:Array Value) (B:Nat->Nat->Nat->Prop),β l=aa (aa b,gen)/\
      w.heap[b]? =aa (.cells h (aR o m).ty (0,0))/\a.length*(aR o m).size<=h.size/\(∀e,e∈a->e.length=(aR o m).size)/\
      (∀(i j:Nat) (e:List T) (x:T) (u:Value),a[i]? =aa e->e[j]? =aa x->h[i*(aR o m).size+j]? =aa u->Cell o m r β w X i j x u (B i j))/\
      (∀i j c,B i j c->i<a.length/\j<(aR o m).size/\c≠b)/\(∀i j p q c,B i j c->B p q c->i=p/\j=q)/\ ∀c,β.n l c↔ ∃i j,B i j c)
theorem cY.mono{T:E}(h:cY β w X k T)(e:Ext X w w')(F: ∀b,b<w.heap.size->W b->X b)
    (r:dX β β') (o: ∀x,β k=aa x->β' k=aa x) (s:Shaped β w w') (a: ∀b,At β k b->w'.heap[b]? =w.heap[b]?) (K: ∀b,β'.n k b↔β.n k b:=by exact λ_=>Iff.rfl):cY β' w' W k T:=by
  cases T with
  |cells cs=>
    obtain⟨b,y,ty,l,p,z,A⟩:=h;exact⟨b,y,ty,o _ l,by rw[a b (.inl ⟨_,l⟩)];exact p,z,λi c u C R=>(A i c u C R).mono e F r s⟩
  |arr ty gen L D=>
    refine⟨h.1,?_⟩;rcases h.2 with ⟨l,p⟩|⟨b,y,l,p,z,A,G⟩
    · exact .inl ⟨o _ l,p⟩
    · exact .inr ⟨b,y,o _ l,by rw[a b (.inl ⟨_,l⟩)];exact p,z,A,λi j q x u aL a2 a3=>(G i j q x u aL a2 a3).mono e F⟩
  |aN I m gen D M=>
    refine⟨h.1,?_⟩;rcases h.2 with ⟨l,p,f⟩|⟨b,y,B,l,p,z,A,G,t,v,Q⟩
    · exact .inl ⟨o _ l,p,λc C=>f c ((K c).1 C)⟩
    · refine .inr ⟨b,y,B,o _ l,by rw[a b (.inl ⟨_,l⟩)];exact p,z,A,λi j q x u aL a2 a3=>(G i j q x u aL a2 a3).mono e F r s λc C=>a c (.inr ((Q c).2 ⟨i,j,C⟩)),t,v,λc=>(K c).trans (Q c)⟩
def Map.put(a:Map)(d:Nat)(x:Option (Option Nat×Nat)):Map:=⟨λi=>bif cc i d then x else a i,a.n⟩
theorem iG(a:Map)(d:Nat)(x:Option (Option Nat×Nat)):a.put d x d=x:=by simp[Map.put]
theorem eS(a:Map)(d i:Nat)(x:Option (Option Nat×Nat))(h:i≠d):a.put d x i=a i:=by
  have:cc i d=ak:=by cases b:cc i d with
    |false=>rfl
    |true=>exact bs (m0 b) h
  simp[Map.put,this]
def aZ{α:Type}(f:Nat->α)(d:Nat)(v:α):Nat->α:=λi=>bif cc i d then v else f i
theorem cd{a:Type}(f:Nat->a)(d:Nat)(v:a):aZ f d v d=v:=by simp[aZ]
theorem cg{a:Type}(f:Nat->a)(d i:Nat)(v:a)(h:i≠d):aZ f d v i=f i:=by
  have:cc i d=ak:=by cases b:cc i d with
    |false=>rfl
    |true=>exact bs (m0 b) h
  simp[aZ,this]
structure S where
  t:Nat->V
  H:Nat->Option E
  u:Nat->Bool
structure fe where
  zw:Nat
  W:World
def fe.ok(G:fe)(w:World):Prop:=G.zw<=w.heap.size/\ ∀b,b<G.zw->w.heap[b]? =G.W.heap[b]?
structure Ctx where
  P:Program
  G:fe
  w0:World
  X:Nat->Prop
  dZ:Nat
  ic:Map
  nt:Nat
def Ctx.M(K:Ctx)(b:Nat):Prop:= ∃id,id<K.dZ/\At K.ic id b
def own(K:Ctx)(β:Map)(H:Nat->Option E)(b:Nat):Prop:=K.X b\/ ∃id,H id≠aj/\At β id b
def kL(n:Nat)(a c:Map)(i:Nat):Prop:= ∀id,id<n->(c id=a id)\/ ∃q g e h,a id=aa (q,g)/\1<=g/\c id=aa (e,h)/\g<h/\ ∀b,e=aa b->q=aa b\/i<=b
theorem kL.refl(n:Nat)(β:Map)(sz:Nat):kL n β β sz:=λ_ _=> .inl rfl
theorem kL.keep{V U:Map}(h:kL n G V sz)(a: ∀id,id<n->U id=V id):kL n G U sz:=λid hid=>by rw[a id hid];exact h id hid
theorem kL.more{U V:Map}(h:kL n U V sz)(l: ∀id,id<n->(G id=V id)\/ ∃q g a i,V id=aa (q,g)/\1<=g/\G id=aa (a,i)/\g<i/\ ∀b,a=aa b->q=aa b\/sz<=b):kL n U G sz:=by
  intro id hid;rcases l id hid with e|⟨q,g,a,i,aL,a2,a3,a4,a5⟩
  · rw[e];exact h id hid
  · rcases h id hid with e|⟨m,o,x,y,p,r,k,z,s⟩
    · exact .inr ⟨q,g,a,i,by rw[<-e];exact aL,a2,a3,a4,a5⟩
    · rw[aL] at k;cases k;exact .inr ⟨m,o,a,i,p,r,a3,O,λb w=>by
        rcases a5 b w with c|c
        · exact s b c
        · exact .inr c⟩
theorem kL.grow{U V:Map}(h:kL n U V sz)(k gen:Nat)(q c:Option Nat)(l:V k=aa (q,gen))(r:1<=gen)(m:G k=aa (c,gen+1))(a: ∀b,c=aa b->q=aa b\/sz<=b)
    (s: ∀id,id≠k->G id=V id):kL n U G sz:=by
  intro id hid;by_cases o:id=k
  · subst o;rcases h id hid with e|⟨w,x,B,C,e,y,p,D,z⟩
    · exact .inr ⟨q,gen,c,gen+1,by rw[<-e];exact l,r,m,pt _,a⟩
    · rw[l] at p;cases p;exact .inr ⟨w,x,c,gen+1,e,y,m,O,λb A=>by
        rcases a b A with i|i
        · exact z b i
        · exact .inr i⟩
  · rw[s id o];exact h id hid
theorem Shaped.ext(h:Shaped G a w)(c:a.heap.size<=w.heap.size)(e:Ext (λ_=>False) w w'):Shaped G a w':=
  λb i=>(tz (e.keep b (lN i c) λh=>h)).trans (h b i)
structure Rel (K:Ctx) (β:Map) (s:S) (a:Act) (w:World):Prop where
  ext:Ext K.M K.w0 w
  oY:K.G.ok K.w0
  o7: ∀b,K.M b->K.G.zw<=b
  jK: ∀b,K.X b->b<K.w0.heap.size/\ ¬K.M b
  base:kL K.dZ K.ic β K.w0.heap.size
  jm:Shaped K.ic K.w0 w
  low: ∀id,id<K.dZ->s.u id=ab
  dT: ∀id,s.u id=ak->β id=aj
  ev: ∀id b,s.u id=ak-> ¬β.n id b
  rs: ∀id lD b,At K.ic id b->At K.ic lD b->id=lD
  inj: ∀id lD b,At β id b->At β lD b->id=lD
  fresh: ∀id b,At β id b->(K.M b\/K.w0.heap.size<=b)/\b<w.heap.size
  heap: ∀id e,s.H id=aa e->s.u id=ab/\cY β w (own K β s.H) id e
  dB: ∀i,bt β w (own K β s.H) (s.t i) (a.tmps.getD i undef)
  nt:a.tmps.size=K.nt
  defers:a.defers=[]
theorem ZF{G:fe}(h:G.ok w)(e:Ext X w w')(c: ∀b,X b->G.zw<=b):G.ok w':=
  ⟨eR h.1 e.size,λb a=>(e.keep b (lN a h.1) λi=>by have:=c b i;omega).trans (h.2 b a)⟩
variable {K:Ctx}
theorem Rel.Dy{s:S}{a:Act}(h:Rel K β s a w):K.G.ok w:=ZF h.oY h.ext h.o7
mutual
def V.ok(u:Nat->Bool):V->Bool
  | .ref id _=>u id
  | .bo id _ _ _ _=>u id
  | .cR id _ _ _ _=>u id
  | .agg cs=>gL u cs
  | .bX cs=>gL u cs
  | .fn _ cs=>gL u cs
  | .t _=>ab
  | .aS _=>ab
  | .dp=>ab
def gL(u:Nat->Bool):List V->Bool
  | []=>ab
  |c::cs=>V.ok u c&&gL u cs
end
theorem xg{u:Nat->Bool}: ∀{cs:List V} {i:Nat} {c:V},gL u cs=ab->cs[i]? =aa c->V.ok u c=ab
  | [],_,_,_,h=>by simp at h
  |c::cs,0,_,h,a=>by simp at a;subst a;simp[gL] at h;exact h.1
  |c::cs,i+1,_,h,a=>by simp at a;simp[gL] at h;exact xg h.2 a
theorem bt.under{u:Nat->Bool}{x:V}(h:bt β w X x v)(A: ∀b,X' b->X b)
    (l: ∀id,u id=ab->β' id=β id) (p:x.ok u=ab):bt β' w X' x v:=by
  induction h with
  |t x v h=>exact .t x v (h.mono (Ext.refl _ _) λb _=>A b)
  |agg cs s k _ y=>exact .agg cs s k (λi c u o z=>y i c u o z (xg (by simpa[V.ok] using p) o))
  |bX cs s k _ y=>exact .bX cs s k (λi c u o z=>y i c u o z (xg (by simpa[V.ok] using p) o))
  |ref id e b n=>exact .ref id e b (by rw[l id (by simpa[V.ok] using p)];exact n)
  |aS cells b e f n B o F=>exact .aS cells b e f n (λh=>B (A _ h)) o (λj x h=>(F j x h).mono (Ext.refl _ _) λb _=>A b)
  |bo id gen a e len C b m ty r n G K L k Q=>exact .bo id gen a e len C b m ty r (by rw[l id (by simpa[V.ok] using p)];exact n) G K L k Q
  |hb id gen a r n=>exact .hb id gen a r (by rw[l id (by simpa[V.ok] using p)];exact n)
  |ks id gen a e len v q g D n r=>exact .ks id gen a e len v q g D (by rw[l id (by simpa[V.ok] using p)];exact n) r
  |cR id gen a i e b r n=>exact .cR id gen a i e b r (by rw[l id (by simpa[V.ok] using p)];exact n)
  |ls id gen a i e v q g D n r=>exact .ls id gen a i e v q g D (by rw[l id (by simpa[V.ok] using p)];exact n) r
  |fn f cs s k _ y=>exact .fn f cs s k (λi c u o z=>y i c u o z (xg (by simpa[V.ok] using p) o))
  |dp v=>exact .dp v
def vp(u:Nat->Bool):List (Nat×Nat×V)->Bool
  | []=>ab
  |h::a=>h.2.2.ok u&&vp u a
theorem He{u:Nat->Bool}: ∀{a:List (Nat×Nat×V)} {i j:Nat} {v:V},vp u a=ab->(i,j,v)∈a->v.ok u=ab
  | [],_,_,_,_,h=>by cases h
  |h::a,i,j,v,b,hm=>by
    simp only[vp,cx] at b;rcases d'.1 hm with rfl|hm
    · exact b.1
    · exact He b.2 hm
def E.ok(u:Nat->Bool):E->Bool
  | .cells cs=>gL u cs
  | .arr _ _ _ _=>ab
  | .aN _ _ _ _ a=>vp u a
def S.le(K:Ctx)(s s':S):Prop:= ∀β a w,Rel K β s a w-> ∃b,Rel K b s' a w
theorem S.le.refl(K:Ctx)(s:S):s.le K s:=λβ _ _ h=>⟨β,h⟩
theorem S.le.trans{a b c:S}(h:a.le K b)(k:b.le K c):a.le K c:=λβ x w i=>let ⟨e,l⟩:=h β x w i;k e x w l
def dO(v b:V):Prop:= ∀a w X u,bt a w X v u->bt a w X b u
theorem dO.refl(v:V):dO v v:=λ_ _ _ _ h=>h
theorem dO.of_eq{v dC:V}(h:v=dC):dO v dC:=h▸dO.refl v
theorem dO.nil:dO (.t .fp) (.t (.bE [])):=by intro β w X u h;cases h with|t _ _ h=>cases h;exact .t _ _ (.fW _ _)
theorem dO.dp(v:V):dO v .dp:=λ_ _ _ _ _=> .dp _
theorem dO.trans{a b c:V}(h:dO a b)(k:dO b c):dO a c:=λe w X u i=>k e w X u (h e w X u i)
def fG:List V->List V->Prop
  | [],[]=>True
  |v::b,c::a=>dO v c/\fG b a
  |_,_=>False
theorem fG.refl: ∀a:List V,fG a a
  | []=>trivial
  |v::a=>⟨dO.refl v,fG.refl a⟩
theorem fG.get: ∀{b a:List V},fG b a->b.length=a.length/\ ∀(i:Nat) c,a[i]? =aa c-> ∃v,b[i]? =aa v/\dO v c
  | [],[],_=>⟨rfl,λi c h=>by simp at h⟩
  |v::b,c::a,h=>by
    obtain⟨k,l⟩:=fG.get h.2;refine⟨by simp[k],λi x e=>?_⟩;cases i with
    |zero=>simp at e;subst e;exact⟨v,rfl,h.1⟩
    |succ i=>simp at e;exact l i x e
  | [],_::_,h=>h.elim
  |_::_,[],h=>h.elim
theorem dO.agg{a Y:List V}(h:fG a Y):dO (.agg a) (.agg Y):=by
  intro q w X u b;obtain⟨r,e⟩:=h.get;cases b with
  |agg _ k s l=>exact .agg _ k O λi c u m n=>by obtain⟨v,o,p⟩:=e i c m;exact p _ _ _ _ (l i v u o n)
theorem dO.bX{a Y:List V}(h:fG a Y):dO (.bX a) (.bX Y):=by
  intro q w X u b;obtain⟨r,e⟩:=h.get;cases b with
  |bX _ k s l=>exact .bX _ k O λi c u m n=>by obtain⟨v,o,p⟩:=e i c m;exact p _ _ _ _ (l i v u o n)
def j8(e a:E):Prop:=match e,a with
  | .cells cs,.cells b=>fG cs b
  |e,a=>e=a
theorem j8.refl(e:E):j8 e e:=by cases e with
  |cells cs=>exact fG.refl cs
  |arr=>rfl
  |aN=>rfl
theorem j8.zP{e':E}(h:j8 e e')(k:cY G w X n e):cY G w X n e':=by
  cases e with
  |cells cs=>
    cases e' with
    |cells o=>
      obtain⟨C,p⟩:=fG.get h;obtain⟨b,q,ty,r,s,D,x⟩:=k;exact⟨b,q,ty,r,s,O,λi c u y z=>by obtain⟨v,A,B⟩:=p i c y;exact B _ _ _ _ (x i v u A z)⟩
    |arr=>cases h
    |aN=>cases h
  |arr ty gen l a=>
    cases e' with
    |cells=>cases h
    |arr=>cases h;exact k
    |aN=>cases h
  |aN F m gen a K=>
    cases e' with
    |cells=>cases h
    |arr=>cases h
    |aN=>cases h;exact k
def pJ(t:Nat->V)(u:Nat->Bool)(a:Nat->V):Prop:= ∀i,a i= .dp\/(dO (t i) (a i)/\(a i).ok u=ab)
def lV(H:Nat->Option E)(u:Nat->Bool)(b:Nat->Option E):Prop:= ∀id e,b id=aa e->(∃a,H id=aa a/\j8 a e)/\u id=ab/\e.ok u=ab
def uL(u a:Nat->Bool):Prop:= ∀id,a id=ab->u id=ab
def nb:Nat->(Nat->Bool)->Bool
  |0,_=>ab
  |n+1,u=>u n&&nb n u
theorem F7{u:Nat->Bool}: ∀{n:Nat},nb n u=ab-> ∀id,id<n->u id=ab
  |0,_,_,h=>bs h (pv _)
  |n+1,h,id,hid=>by
    simp[nb] at h;by_cases e:id=n
    · subst e;exact h.1
    · exact F7 h.2 id O
def ql:Nat->V:=λ_=> .dp
def nl:Nat->Option E:=λ_=>aj
def gK:Nat->Bool:=λ_=>ak
theorem pJ.nil(t:Nat->V)(u:Nat->Bool):pJ t u ql:=λ_=> .inl rfl
theorem pJ.aZ{t:Nat->V}{u:Nat->Bool}{r:Nat->V}{d:Nat}{v:V}(h:dO (t d) v)(b:v.ok u=ab)(c:pJ t u r):pJ t u (Lift.aZ r d v):=by
  intro i;by_cases a:i=d
  · subst a;rw[cd];exact .inr ⟨h,b⟩
  · rw[cg _ _ _ _ a];exact c i
theorem lV.nil(H:Nat->Option E)(u:Nat->Bool):lV H u nl:=λ_ _ h=>by simp[nl] at h
theorem lV.aZ{H:Nat->Option E}{u:Nat->Bool}{r:Nat->Option E}{d:Nat}(b:E)(h:H d=aa b)(k:j8 b e)(l:u d=ab)(m:e.ok u=ab)(n:lV H u r):lV H u (Lift.aZ r d (aa e)):=by
  intro i e' a;by_cases c:i=d
  · subst c;rw[cd] at a;cases a;exact⟨⟨b,h,k⟩,l,m⟩
  · rw[cg _ _ _ _ c] at a;exact n i e' a
theorem uL.nil(u:Nat->Bool):uL u gK:=λ_ h=>by simp[gK] at h
theorem uL.aZ{u r:Nat->Bool}{d:Nat}(h:u d=ab)(c:uL u r):uL u (Lift.aZ r d ab):=by
  intro i a;by_cases b:i=d
  · subst b;exact h
  · rw[cg _ _ _ _ b] at a;exact c i a
theorem cY.under{u:Nat->Bool}(h:cY β w X k e)(C: ∀b,W b->X b)
    (a: ∀k,u k=ab->β' k=β k) (l:u k=ab) (G:e.ok u=ab) (K: ∀b,β'.n k b↔β.n k b:=by exact λ_=>Iff.rfl):cY β' w W k e:=by
  cases e with
  |cells cs=>
    obtain⟨b,r,ty,p,q,s,y⟩:=h;exact⟨b,r,ty,by rw[a k l];exact p,q,s,λi c u D Q=>(y i c u D Q).under C a (xg G D)⟩
  |arr ty gen L z=>
    refine⟨h.1,?_⟩;rcases h.2 with ⟨p,q⟩|⟨b,r,p,q,s,y,A⟩
    · exact .inl ⟨by rw[a k l];exact p,q⟩
    · exact .inr ⟨b,r,by rw[a k l];exact p,q,s,y,λi j o x u aL a2 a3=>(A i j o x u aL a2 a3).mono (Ext.refl _ _) λb _=>C b⟩
  |aN N m gen z S=>
    refine⟨h.1,?_⟩;rcases h.2 with ⟨p,q,R⟩|⟨b,r,B,p,q,s,y,A,f,t,I⟩
    · exact .inl ⟨by rw[a k l];exact p,q,λc D=>R c ((K c).1 D)⟩
    · refine .inr ⟨b,r,B,by rw[a k l];exact p,q,s,y,λi j o x u aL a2 a3=>⟨λv F=>⟨((A i j o x u aL a2 a3).1 v F).1.under C a (He G F),((A i j o x u aL a2 a3).1 v F).2⟩,
        λM=>((A i j o x u aL a2 a3).2 M).mono (Ext.refl _ _) (λb _=>C b) λ_ _=>rfl⟩,f,t,λc=>(K c).trans (I c)⟩
def cut(β:Map)(u:Nat->Bool):Map:=⟨λid=>bif u id then β id else aj,λid b=>u id=ab/\β.n id b⟩
theorem CJ{u:Nat->Bool}{b:Nat}(h:At (cut G u) n b):At G n b:=by
  rcases h with ⟨g,h⟩|h
  · refine .inl ⟨g,?_⟩;by_cases a:u n=ab
    · simpa[cut,a] using h
    · simp[cut,a] at h
  · exact .inr h.2
theorem yl{u:Nat->Bool}{id:Nat}(h:u id=ab):cut G u id=G id:=by simp[cut,h]
theorem F'{s s':S}(c:lV s.H s'.u s'.H): ∀b,own K (cut β s'.u) s'.H b->own K β s.H b:=by
  rintro b (h|⟨id,i,k⟩)
  · exact .inl h
  · cases a:s'.H id with
    |none=>exact bs a i
    |some e=>
      obtain⟨m,l,_⟩:=(c id e a).1;exact .inr ⟨id,by rw[l];simp,CJ k⟩
theorem Rel.cut{s s':S}{a:Act}(l:Rel K β s a w)(q:pJ s.t s'.u s'.t)(p:lV s.H s'.u s'.H)(n:nb K.dZ s'.u=ab):Rel K (cut β s'.u) s' a w:=by
  have c:=F' (K:=K) (β:=β) p;refine {l with base:= ?_,low:=F7 n,dT:= ?_,ev:= ?_,inj:= ?_,fresh:= ?_,heap:= ?_,dB:= ?_}
  · exact l.base.keep λid hid=>yl (F7 n id hid)
  · intro id hid;simp[Lift.cut,hid]
  · intro id b hid h;rw[h.1] at hid;cases hid
  · intro id o b m k;exact l.inj id o b (CJ m) (CJ k)
  · intro id b h;exact l.fresh id b (CJ h)
  · intro id e r;obtain⟨⟨x,m,n⟩,k,y⟩:=p id e r;exact⟨k,(n.zP (l.heap id x m).2).under c (λ_ h=>yl h) k y λ_=>⟨λh=>h.2,λh=>⟨k,h⟩⟩⟩
  · intro i;rcases q i with h|⟨m,k⟩
    · rw[h];exact .dp _
    · exact(m _ _ _ _ (l.dB i)).under c (λ_ h=>yl h) k
theorem afr{s s':S}(a:pJ s.t s'.u s'.t)(b:lV s.H s'.u s'.H)(_hu:uL s.u s'.u)(c:nb K.dZ s'.u=ab):s.le K s':=
  λe _ _ h=>⟨Lift.cut e s'.u,h.cut a b c⟩
def B2:Value->V
  | .bool b=> .t (.bool b)
  | .int k n=> .t (.int k n)
  | .string s=> .t (.str s.data.toList)
  | .slice aj 0 0=> .t .fp
  | .pointer aj=> .t .gM
  | .nilIface=> .t .gn
  | .nilFunc=> .t .mm
  |_=> .dp
def hz:Value->V
  | .agg cs=> .agg (cs.toList.map B2)
  |v=>B2 v
def S.get(s:S):Operand->V
  | .tmp t=>s.t t
  | .const v=>hz v
  | .func f=> .fn f []
  | .global _=> .dp
theorem MT(a:Map)(w:World)(X:Nat->Prop)(v:Value):bt a w X (B2 v) v:=by
  unfold B2;split
  · exact .t _ _ (.bool _)
  · exact .t _ _ (.int _ _)
  · rename_i s;have h:=cV.str (w:=w) (X:=X) s.data.toList;exact .t _ _ (by simpa using h)
  · exact .t _ _ .fp
  · exact .t _ _ .gM
  · exact .t _ _ .gn
  · exact .t _ _ .mm
  · exact .dp _
theorem Ah(β:Map)(w:World)(X:Nat->Prop)(v:Value):bt β w X (hz v) v:=by
  unfold hz;split
  · rename_i cs;exact .agg _ _ a7 (λi c u a e=>by
      simp only[List.getElem?_map,Array.getElem?_toList,Option.map_eq_some_iff] at a;obtain⟨k,b,h⟩:=a;rw[e] at b;cases b;rw[<-h];exact MT _ _ _ _)
  · exact MT _ _ _ _
def dx(β:Map)(w:World)(X:Nat->Prop):List V->List Value->Prop
  | [],[]=>True
  |v::a,u::b=>bt β w X v u/\dx β w X a b
  |_,_=>False
theorem dx.mono{β β':Map}{w w':World}{X W:Nat->Prop}: ∀{c:List V} {i:List Value},dx β w X c i->Ext X w w'->(∀b,b<w.heap.size->W b->X b)->
    dX β β'->Shaped β w w'->dx β' w' W c i
  | [],[],_,_,_,_,_=>trivial
  |_::_,_::_,h,e,k,a,l=>⟨h.1.mono e k a l,dx.mono h.2 e k a l⟩
  | [],_::_,h,_,_,_,_=>h.elim
  |_::_,[],h,_,_,_,_=>h.elim
theorem dx.le: ∀{β:Map} {w:World} {X:Nat->Prop} {b a:List V} {c:List Value},dx β w X b c->fG b a->dx β w X a c
  |_,_,_,[],[],[],_,_=>trivial
  |_,_,_,_::_,_::_,_::_,h,k=>⟨k.1 _ _ _ _ h.1,dx.le h.2 k.2⟩
  |_,_,_,[],_::_,_,_,k=>k.elim
  |_,_,_,_::_,[],_,_,k=>k.elim
  |_,_,_,[],[],_::_,h,_=>h.elim
  |_,_,_,_::_,_::_,[],h,_=>h.elim
theorem Rel.get{s:S}{a:Act}(h:Rel K β s a w)(x:Operand):bt β w (own K β s.H) (s.get x) (a.eval x):=by
  cases x with
  |tmp t=>exact h.dB t
  |const v=>exact Ah _ _ _ v
  |func f=>exact .fn f [] #[] rfl (λi c u b _=>by simp at b)
  |global g=>exact .dp _
theorem Rel.oX{s:S}{a:Act}(h:Rel K β s a w): ∀b:List Operand,dx β w (own K β s.H) (b.map s.get) (b.map a.eval)
  | []=>trivial
  |x::b=>⟨h.get x,h.oX b⟩
def cv(P:Program)(H:Nat->Option E)(o:Oper)(a:List V)(v:V):Prop:=
  ∀(b:Map) (w:World) (X:Nat->Prop) (c:Operand->Value),(∀id e,H id=aa e->cY b w X id e)->
    dx b w X a (o.op.operands.toList.map c)-> ∃u,(execOp c o).run P w= .ok (.value u) w/\bt b w X v u
def ef(K:Ctx)(o:Oper)(s h:S):Prop:=
  ∀i a w next Q,Rel K i s a w->(∀b c e,Rel K b h c e->next c e)->o.wp K.P a w next Q
def S.put(s:S)(d:Option Tmp)(v:V):S:=match d with
  |some d=>{s with t:=aZ s.t d v}
  |none=>s
theorem Rel.put{s:S}{a:Act}(h:Rel K β s a w)(d:Option Tmp)(e: ∀i,d=aa i->dw i K.nt=ab){v:V}(k:bt β w (own K β s.H) v u):
    Rel K β (s.put d v) (a.put d u) w:=by
  cases d with
  |none=>exact h
  |some d=>
    have b:d<a.tmps.size:=by rw[h.nt];have:=e d rfl;simpa[Nat.blt_eq] using this
    refine {h with dB:= ?_,nt:= ?_}
    · intro i;simp only[Act.put,S.put];by_cases c:i=d
      · subst c;rw[cd];simp only[Array.getD_eq_getD_getElem?,Array.getElem?_setIfInBounds_self_of_lt b,Option.getD_some];exact k
      · rw[cg _ _ _ _ c];simp only[Array.getD_eq_getD_getElem?,Array.getElem?_setIfInBounds_ne (Ne.symm c)]
        have:=h.dB i;simpa only[Array.getD_eq_getD_getElem?] using this
    · simpa[Act.put] using h.nt
theorem YP{o:Oper}{s:S}{vals:List V}{v:V}(l: ∀i,o.dst=aa i->dw i K.nt=ab)(m:fG (o.op.operands.toList.map s.get) vals)(h:cv K.P s.H o vals v):
    ef K o s (s.put o.dst v):=by
  intro c a w next Q k n
  obtain⟨u,b,p⟩:=h c w (own K c s.H) a.eval (λid e q=>(k.heap id e q).2) ((k.oX _).le m);unfold Oper.wp;rw[b];exact n c _ w (k.put o.dst l p)
section oB
variable {P:Program}{H:Nat->Option E}{d:Option Tmp}{ty:TypeId}{pos:String}{af:Array Edge}{g:Option (Nat×Bool)}
theorem af8(x:Operand)(v:V):cv P H ⟨d,.move x,ty,pos,af,g⟩ [v] v:=by intro c w X a _ b;exact⟨a x,rfl,b.1⟩
theorem adf(x:Operand)(v:V):cv P H ⟨d,.assign x,ty,pos,af,g⟩ [v] v:=by intro c w X a _ b;exact⟨a x,rfl,b.1⟩
theorem oa{b:Bool}(h:bt G w X (.t (.bool b)) u):u= .bool b:=by cases h with|t _ _ h=>cases h with|bool=>rfl
theorem dS{k:IntKind}{n:Int}(h:bt G w X (.t (.int k n)) u):u= .int k n:=by cases h with|t _ _ h=>cases h with|int=>rfl
theorem hQ{l:List UInt8}(h:bt G w X (.t (.str l)) u):u= .string ⟨l.toArray⟩:=by cases h with|t _ _ h=>cases h with|str=>rfl
theorem YR(c x y:Operand)(v b:V):cv P H ⟨d,.pick c x y,ty,pos,af,g⟩ [.t (.bool ab),v,b] v:=by
  intro h w X e _ a;refine⟨e x,?_,a.2.1⟩
  have:=oa a.1;simp[execOp,this,asBool]
theorem Yo(c x y:Operand)(v dC:V):cv P H ⟨d,.pick c x y,ty,pos,af,g⟩ [.t (.bool ak),v,dC] dC:=by
  intro e w X b _ a;refine⟨b y,?_,a.2.2.1⟩
  have:=oa a.1;simp[execOp,this,asBool]
theorem Vd(x y:Operand)(t b:TypeId)(k:IntKind)(m n:Int):cv P H ⟨d,.binOp .add t x y b,ty,pos,af,g⟩ [.t (.int k m),.t (.int k n)] (.t (.int k (k.wrap (m+n)))):=by intro c w X e _ a;refine⟨.int k (k.wrap (m+n)),?_,.t _ _ (.int _ _)⟩;simp[execOp,dS a.1,dS a.2.1,eqGuard,binOp,Op.intArith]
end oB
end
section
def cX(K:Ctx)(c:Code)(s:S)(Q:Exit->S->Prop):Prop:=
  ∀l a w d,Rel K l s a w->(∀e h b i k,Q e h->Rel K b h i k->d e i k)->c.wp K.P d a w
def qX(K:Ctx)(b:Array Oper)(l:List Oper)(s:S)(Q:S->Prop):Prop:=
  ∀k a w d,Rel K k s a w->(∀e c h i,Q e->Rel K c e h i->d .normal h i)->wpList K.P b d l a w
def q5(next:S->Prop)(Q:Exit->S->Prop):Exit->S->Prop
  | .normal,s=>next s
  |e,s=>Q e s
def yy(b:Nat)(Q:Exit->S->Prop):Exit->S->Prop
  | .exit a,s=>bif cc a b then Q .normal s else Q (.exit a) s
  |e,s=>Q e s
def C8(a:S->Prop)(Q:Exit->S->Prop):Exit->S->Prop
  | .normal,s=>a s
  |e,s=>Q e s
variable {P:Program}{c x y:Code}{a:Act}{w:World}{b:Bool}{n t:Nat}{β:Map}{X:Nat->Prop}
theorem Xc{R:Type}{Q:Exit->Act->World->Prop}(I:R->Act->World->Prop)(mB :R->Nat)(x:R)(G:I x a w)
    (p: ∀x a w,I x a w->c.wp P (Exit.then (λz w'=> ∃y,I y z w'/\ mB y< mB x) Q) a w):(Code.loop c).wp P Q a w:=by
  intro b k cs;have D: ∀n x a w,mB x=n->I x a w->
      ∃e z w',Q e z w'/\Arrives P (lone (b.at a (.code c:: .inLoop c::k)) cs w) b k cs e z w':=by
    intro n;induction n using Nat.strongRecOn with
    |_ n H=>
      intro x a w L W;obtain⟨e,h,i,o,d⟩:=p x a w W b (.inLoop c::k) cs;cases e with
      |normal=>
        obtain⟨y,q,F⟩:=o;obtain⟨A,B,C,r,m⟩:=H (mB y) (L▸F) y h i rfl q;exact⟨A,B,C,r,.of_steps (Steps.trans d (.one step_inLoop)) m⟩
      |exit id=>exact⟨_,h,i,o,.pass (x:= .inLoop c) rfl (λ_ _=> .inl a7) d⟩
      |goto l=>exact⟨_,h,i,o,.pass (x:= .inLoop c) rfl (λ_ _=> .inl a7) d⟩
      |ret=>exact⟨_,h,i,o,.pass (x:= .inLoop c) rfl (λ_ _=> .inl a7) d⟩
      |panic X=>exact⟨_,h,i,o,.pass (x:= .inLoop c) rfl (λ_ _=> .inl a7) d⟩
      |outgrown=>exact⟨_,h,i,o,.pass (x:= .inLoop c) rfl (λ_ _=> .inl a7) d⟩
  obtain⟨e,z,w',o,d⟩:=D _ x a w rfl G;exact⟨e,z,w',o,.of_steps (.one step_loop) d⟩
section rules
variable {K:Ctx}{s:S}{Q:Exit->S->Prop}
theorem xI{E:Exit->S->Prop}(h:cX K c s Q)(i: ∀e s,Q e s->E e s):cX K c s E:=
  λk a w l m n=>h k a w l m λe d b o p q r=>n e d b o p (i e d q) r
theorem wO{b:S}(i:s.le K b)(h:cX K c b Q):cX K c s Q:=
  λk a w l m n=>let ⟨d,e⟩:=i k a w m;h d a w l e n
theorem Cw(h:cX K x s (q5 (λm=>cX K y m Q) Q)):cX K (.seq x y) s Q:=by
  intro n a w o p d;refine wp_seq (h n a w _ p ?_);intro e z k q r i b;cases e with
  |normal=>exact i k q r o b d
  |exit id=>exact d _ _ _ _ _ i b
  |goto l=>exact d _ _ _ _ _ i b
  |ret=>exact d _ _ _ _ _ i b
  |panic c=>exact d _ _ _ _ _ i b
  |outgrown=>exact d _ _ _ _ _ i b
theorem adg(h:Q .normal s):cX K .skip s Q:=λb a w _ c d=>wp_skip (d _ _ b a w h c)
theorem afa(h:Q .ret s):cX K .ret s Q:=λb a w _ c d=>wp_ret (d _ _ b a w h c)
theorem adi(h:Q (.exit n) s):cX K (.exit n) s Q:=λb a w _ c d=>wp_exit (d _ _ b a w h c)
theorem km{c:Operand}(l:s.get c= .t (.bool b))(m:b=ab->cX K x s Q)(n:b=ak->cX K y s Q):cX K (.cond c x y) s Q:=by
  intro e a w i d k;have h:=d.get c;rw[l] at h;have a1:=oa h;cases b with
  |true=>exact wp_cond_true a1 (m rfl e a w i d k)
  |false=>exact wp_cond_false a1 (n rfl e a w i d k)
theorem abI(h:cX K c s (yy n Q)):cX K (.block n c) s Q:=by
  intro m a w r o k;refine wp_block (h m a w _ o ?_);intro e x p y z i b;cases e with
  |exit d=>
    by_cases hid:d=n
    · subst hid;simp only[yy,Exit.inBlock,if_true] at*;rw[show cc d d=ab by simp,cond_true] at i;exact k _ _ _ _ _ i b
    · simp only[yy,Exit.inBlock] at*;rw[a8 hid];rw[show cc d n=ak from by cases q:cc d n with
        |false=>rfl
        |true=>exact bs (m0 q) hid,cond_false] at i
      exact k _ _ _ _ _ i b
  |normal=>exact k _ _ _ _ _ i b
  |goto l=>exact k _ _ _ _ _ i b
  |ret=>exact k _ _ _ _ _ i b
  |panic c=>exact k _ _ _ _ _ i b
  |outgrown=>exact k _ _ _ _ _ i b
theorem adh{ι:Type}(I:ι->S)(p:ι->Prop)(mB :ι->Nat)(x:ι)(H:p x)(L:s.le K (I x))
    (d: ∀x,p x->cX K c (I x) (C8 (λG=> ∃y,p y/\ mB y< mB x/\G.le K (I y)) Q)):cX K (.loop c) s Q:=by
  intro R a w t W k;obtain⟨h,n⟩:=L R a w W;refine Xc (λy X f=>p y/\ ∃h,Rel K h (I y) X f) mB x ⟨H,h,n⟩ ?_;intro y aL g ⟨o,q,r⟩;refine d y o q aL g _ r ?_;intro e G A a2 j i b;cases e with
  |normal=>
    obtain⟨z,B,C,m⟩:=i;obtain⟨D,F⟩:=m A a2 j b;exact⟨z,⟨B,D,F⟩,C⟩
  |exit id=>exact k _ _ _ _ _ i b
  |goto l=>exact k _ _ _ _ _ i b
  |ret=>exact k _ _ _ _ _ i b
  |panic c=>exact k _ _ _ _ _ i b
  |outgrown=>exact k _ _ _ _ _ i b
theorem adj{b:Array Oper}{Q:S->Prop}(h:Q s):qX K b [] s Q:=λc a w _ d e=>e s c a w h d
theorem Rel.bool(i:Rel K β s a w)(h:s.t t= .t (.bool b)):a.tmps[t]? =aa (.bool b):=by
  have d:=i.dB t;rw[h] at d;have c:=oa d;rw[r2] at c;cases e:a.tmps[t]? with
  |none=>rw[e] at c;simp[undef] at c
  |some x=>rw[e] at c;simp at c;rw[c]
theorem Pb{G:Map}:bt G w X (.bX []) undef:= .bX [] #[] rfl λi c u h _=>by simp at h
theorem Rel.akK(e:Rel K β s a w){ops:Array Oper}{j:Nat}{want:Bool}(m:(ops[j]?).bind (·.dst)=aa t)(h:s.t t= .bX []):yielded ops a.tmps j≠aa want:=by
  have c:=e.dB t;rw[h] at c;have d:a.tmps.getD t undef= .tuple #[]:=by
    generalize a.tmps.getD t undef=y at c;cases c with
    |bX _ i k _=>
      have:i= #[]:=by simpa using k
      rw[this]
  have n: ∀b,a.tmps[t]? ≠aa (.bool b):=by
    intro b l;rw[r2,l] at d;simp at d
  unfold yielded
  grind
def fD:Map:=⟨λ_=>aj,λ_ _=>False⟩
theorem qd{b:Nat}(h:At fD n b):False:=by
  rcases h with ⟨_,h⟩|h
  · simp[fD] at h
  · exact h
def F6(P:Program)(G:fe)(f:FuncId)(args:List V)(r:V):Prop:=
  ∀(w:World) (X:Nat->Prop) (a:List Value),G.ok w->(∀b,X b->b<w.heap.size)->dx fD w X args a->
    Calls P f a.toArray w λe c=> ∃u,e= .returned u/\Ext (λ_=>False) w c/\bt fD c X r u
theorem bt.any{X':Nat->Prop}{x:V}{v:Value}(h:bt fD w X x v)(a: ∀b,X' b->X b):bt β w X' x v:=
  h.mono (Ext.refl _ _) (λb _=>a b) (λ_ _ _ h=>by simp[fD] at h) (Shaped.refl _ _)
theorem dx.KK: ∀{β:Map} {w:World} {X:Nat->Prop} {a:List V} {c:List Value},dx β w X a c->gL gK a=ab->dx fD w X a c
  |_,_,_,[],[],_,_=>trivial
  |_,_,_,_::_,_::_,h,b=>by
    simp[gL] at b;exact⟨h.1.under (u:=gK) (λ_ h=>h) (λ_ h=>by simp[gK] at h) b.1,dx.KK h.2 b.2⟩
  |_,_,_,[],_::_,h,_=>h.elim
  |_,_,_,_::_,[],h,_=>h.elim
theorem Rel.grow{w':World}(h:Rel K β s a w)(e:Ext (λ_=>False) w w'):Rel K β s a w':=by
  have c:Ext (own K β s.H) w w':=e.weaken λ_ _ h=>h.elim;refine {h with ext:=h.ext.trans (e.weaken λ_ _ h=>h.elim),jm:=h.jm.ext h.ext.size e,fresh:= ?_,heap:= ?_,dB:= ?_}
  · intro id b d;exact⟨(h.fresh id b d).1,lN (h.fresh id b d).2 e.size⟩
  · intro id k l;obtain⟨m,n⟩:=h.heap id k l;exact⟨m,n.mono c (λ_ _ h=>h) (dX.refl _) (λ_ h=>h) (f8 e) λb d=>e.keep b (h.fresh id b d).2 λh=>h⟩
  · intro i;exact(h.dB i).mono c (λ_ _ h=>h) (dX.refl _) (f8 e)
theorem ef.call{o:Oper}{f:FuncId}{d:Func}{c:Array Operand}{k:Array TypeId}{vals:List V}{r:V}
    (A:o.op= .call {callee:= .value (.func f),args:=c,argTypes:=k}) (B:K.P.funcs[f]? =aa d) (C:(d.name== "runtime.NumGoroutine")=ak) (q:d.body.isNone=ak)
    (D: ∀i,o.dst=aa i->dw i K.nt=ab) (F:fG (c.toList.map s.get) vals) (L:gL gK vals=ab) (h:F6 K.P K.G f vals r):ef K o s (s.put o.dst r):=by
  intro x a w next Q m R
  have y:d.name≠ "runtime.NumGoroutine" :=by simpa using C
  have z:d.body≠aj:=by intro e;simp[e] at q
  have n:(execOp a.eval o).run K.P w= .ok (.enter f (c.map a.eval)) w:=by
    simp[execOp,A,resolve,Deferred.ofValue,Act.eval,invoke,callFunc,B,y,z]
  unfold Oper.wp;rw[n,Oper.upon_enter];have l:=(dx.le (m.oX c.toList) F).KK L;have W: ∀b,own K x s.H b->b<w.heap.size:=by
    rintro b (X|⟨id,_,q⟩)
    · exact lN (m.jK b X).1 m.ext.size
    · exact(m.fresh id b q).2
  have bS:=h w (own K x s.H) _ m.Dy W l;have g:(List.map a.eval c.toList).toArray=c.map a.eval:=by rw[<-xc]
  rw[g] at bS;refine bS.mono ?_;rintro e j ⟨u,rfl,p,t⟩;exact R x _ j ((m.grow p).put o.dst D (t.any λ_ h=>h))
def uE:List V->Nat->(Nat->V)
  | [],_=>ql
  |v::a,i=>aZ (uE a (i+1)) i v
theorem FM{G:Map}{w:World}{X:Nat->Prop}: ∀(a:List V) (b:List Value) (i:Nat),dx G w X a b-> ∀j,bt G w X (uE a i (i+j)) (b.getD j undef)
  | [],_,_,_,_=> .dp _
  |v::a,u::b,i,h,0=>by
    rw[r0,uE,cd];exact h.1
  |v::a,u::b,i,h,j+1=>by
    rw[uE,cg _ _ _ _ O,show i+(j+1)=(i+1)+j by omega];simpa using FM a b (i+1) h.2 j
  |_::_,[],_,h,_=>h.elim
theorem dx.length: ∀{β:Map} {w:World} {X:Nat->Prop} {vs:List V} {a:List Value},dx β w X vs a->a.length=vs.length
  |_,_,_,[],[],_=>rfl
  |_,_,_,_::_,_::_,h=>by simp[dx.length h.2]
  |_,_,_,[],_::_,h=>h.elim
  |_,_,_,_::_,[],h=>h.elim
def Ctx.pure(P:Program)(G:fe)(w:World)(X:Nat->Prop)(nt:Nat):Ctx:={P,G,w0:=w,X,dZ:=0,ic:=fD,nt}
def start(args:List V):S:={t:=uE args 0,H:=nl,u:=gK}
theorem Rel.start{G:fe}{nt:Nat}{args:List V}{a:List Value}(e:G.ok w)(k: ∀b,X b->b<w.heap.size)(h:dx fD w X args a)(n:a.length<=nt):
    Rel (Ctx.pure P G w X nt) fD (Lift.start args) {tmps:=a.toArray++Array.replicate (nt-a.toArray.size) undef,defers:=[]} w:=by
  have d: ∀b,¬(Ctx.pure P G w X nt).M b:=by rintro b ⟨id,h,_⟩;simp[Ctx.pure] at h
  refine {ext:=Ext.refl _ _,oY:=e,o7:=λb h=>bs h (d b),jK:=λb h=>⟨k b h,d b⟩,base:=kL.refl _ _ _,jm:=Shaped.refl _ _,low:=λ_ h=>bs h (pv _),dT:=λ_ _=>rfl,
           ev:=λ_ _ _ h=>h,rs:=λ_ _ _ h=>(qd h).elim,inj:=λ_ _ _ h=>(qd h).elim,fresh:=λ_ _ h=>(qd h).elim,heap:=λ_ _ h=>by simp[Lift.start,nl] at h,dB:= ?_,nt:= ?_,defers:=rfl}
  · intro i;have c:=FM args a 0 h i;rw[dI] at c;have l:(a.toArray++Array.replicate (nt-a.toArray.size) undef).getD i undef=a.getD i undef:=by
      simp only[Array.getD_eq_getD_getElem?,List.getD_eq_getElem?_getD,Array.getElem?_append]
      grind
    simp only[l];refine c.mono (Ext.refl _ _) ?_ (dX.refl _) (Shaped.refl _ _);rintro b _ (m|⟨id,c,_⟩)
    · exact m
    · simp[Lift.start,nl] at c
  · simp[Ctx.pure];omega
end rules
end
set_option linter.unusedVariables false
set_option linter.unusedSimpArgs false
section
def cr(P:Program)(t:TypeId)(u:TypeDesc)(z:Value)(b a:Nat):Prop:=
 P.underlying t=aa u/\ ∃i,P.info? t=aa i/\i.zero=aa z/\i.size=b/\i.bytes=a
variable {n b i k gen m:Nat}{a:Act}{v:V}{G β:Map}{X:Nat->Prop}{q:Option Nat}
theorem cr.of{P:Program}{t:TypeId}{u:TypeDesc}{z:Value}{bytes:Nat}(h:P.underlying t=aa u)(a:(P.info? t).map (λi=>(i.zero,i.size,i.bytes))=aa (aa z,n,bytes)):cr P t u z n bytes:=by
 cases b:P.info? t with
 |none=>rw[b] at a;cases a
 |some i=>
  rw[b] at a;simp only[gS,Option.some.injEq,Prod.mk.injEq] at a;exact⟨h,i,b,a.1,a.2.1,a.2.2⟩
def kU:TypeDesc->Bool
 | .struct _=>ab
 | .array _ _=>ab
 |_=>ak
section runs
variable {P:Program}{t:TypeId}{u:TypeDesc}{z:Value}{size bytes:Nat}(w:World)
theorem cr.Ep(h:cr P t u z size bytes):(isAgg t).run P w= .ok (kU u) w:=by obtain⟨a,_⟩:=h;simp only[isAgg,fo,run_underlying a,fc];cases u<;>rfl
theorem cr.run_sizeOf(h:cr P t u z size bytes):(sizeOf t).run P w= .ok size w:=by obtain⟨_,i,a,c,b,e⟩:=h;simp[sizeOf,typeInfo,a,b]
theorem cr.t'(h:cr P t u z size bytes):(zeroValue t).run P w= .ok z w:=by obtain⟨_,i,a,b,c,e⟩:=h;simp[zeroValue,typeInfo,a,b]
theorem cr.Er(h:cr P t u z size bytes)(b:kU u=ak){a:Addr}{v:Value}(c:w.cell? a=aa v):(loadVar t a).run P w= .ok v w:=by simp only[loadVar,fo,h.Ep,fc,b];simp[c]
theorem jA(b o i:Nat):(⟨b,o,aj⟩:Addr).add i=⟨b,o+i,aj⟩:=by unfold Addr.add;split<;>simp_all
theorem cr.Es(h:cr P t u z size bytes)(a:kU u=ab){o:Nat}{f:Nat->Value}(c: ∀j,j<size->w.cell? ⟨b,o+j,aj⟩=aa (f j)):
  (loadVar t ⟨b,o,aj⟩).run P w= .ok (.agg ((gi size).map f).toArray) w:=by simp only[loadVar,fo,h.Ep,h.run_sizeOf,fc,a,if_true];rw[run_loadCells w ⟨b,o,aj⟩ size f λj e=>by rw[jA];exact c j e];rfl
end runs
section oB
variable {P:Program}{H:Nat->Option E}{d:Option Tmp}{ty:TypeId}{pos:String}{af:Array Edge}{g:Option (Nat×Bool)}
variable {t:TypeId}{u:TypeDesc}{z:Value}{size bytes:Nat}
theorem sp{w:World}{u:Value}(h:bt G w X (.ref i n) u): ∃b,G i=aa (aa b,0)/\u= .pointer (aa ⟨b,n,aj⟩):=by cases h with|ref _ _ b a=>exact⟨b,a,rfl⟩
theorem qg{w:World}{u:Value}(h:bt G w X (.cR k gen n i m) u)(a:G k=aa (q,gen)): ∃b,q=aa b/\u= .pointer (aa ⟨b,i*n+m,aj⟩):=by
 cases h with
 |cR _ _ _ _ _ b e c=>rw[c] at a;cases a;exact⟨b,rfl,rfl⟩
 |ls _ _ _ _ _ _ l g o c e=>rw[c] at a;cases a;omega
theorem kx{w:World}{c:TypeId}{a:List (List T)}(h:cY G w X i (.arr c gen n a)): ∃q,G i=aa (q,gen):=by
 rcases h.2 with ⟨e,_⟩|⟨b,k,e,_⟩
 ·exact⟨_,e⟩
 exact⟨_,e⟩
theorem Ip{w:World}{a:List T}{u:Value}(h:bt G w X (.aS a) u): ∃(b c:Nat) (f:Nat->Value),u= .pointer (aa ⟨b,c,aj⟩)/\b<w.heap.size/\ ¬X b/\
  (∀j,j<a.length->w.cell? ⟨b,c+j,aj⟩=aa (f j))/\ ∀(j:Nat) (x:T),a[j]? =aa x->cV w X x (f j):=by cases h with|aS _ b c f e i k l=>exact⟨b,c,f,rfl,e,i,k,l⟩
theorem ae8(x:Operand)(i a:Nat)(k:List V)(c:V)(p:cr P t u z size bytes)(q:kU u=ak)(r:H i=aa (.cells k))(m:k[a]? =aa c):
  cv P H ⟨d,.load t x,ty,pos,af,g⟩ [.ref i a] c:=by
 intro L w X Q y A;obtain⟨b,B,C⟩:=sp A.1;obtain⟨R,l,D,n,F,o,G⟩:=y i _ r;rw[B] at n;cases n;have h:a<k.length:=(b5.1 m).1;have e:w.cell? ⟨b,a,aj⟩=aa l[a]:=by simp[World.cell?,F,o,h]
 refine⟨l[a],?_,G a c l[a] m (by simp[o,h])⟩;simp[execOp,C,Instr.loadAt,Instr.sureAddr,p.Er w q e]
theorem ae7(x:Operand)(k a:Nat)(h:List V)(n:cr P t u z size bytes)(o:kU u=ab)(p:H k=aa (.cells h))(q:dD (a+size) h.length=ab):
  cv P H ⟨d,.load t x,ty,pos,af,g⟩ [.ref k a] (.agg ((h.drop a).take size)):=by
 intro L w X Q r y;obtain⟨b,A,B⟩:=sp y.1;obtain⟨R,l,C,m,D,W,f⟩:=r k _ p;rw[A] at m;cases m;have F:a+size<=h.length:=fg q;have e: ∀j,j<size->w.cell? ⟨b,a+j,aj⟩=aa (l.getD (a+j) undef):=λj I=>by
  have:a+j<l.size:=O
  simp[World.cell?,D,this]
 refine⟨_,by simp[execOp,B,Instr.loadAt,Instr.sureAddr,n.Es w o e];rfl,?_⟩;refine .agg _ _ b6 (λi c v G M=>?_)
 grind
theorem aaz(x:Operand)(c:T)(r:List T)(a:cr P t u z size bytes)(e:kU u=ak):cv P H ⟨d,.load t x,ty,pos,af,g⟩ [.aS (c::r)] (.t c):=by intro o w X p q h;obtain⟨b,i,f,k,y,A,l,m⟩:=Ip h.1;have n:=l 0 a7;refine⟨f 0,?_,.t _ _ (m 0 c a7)⟩;simp only[execOp,k,Instr.loadAt,Instr.sureAddr,fo,j6,fc];rw[a.Er w e (v:=f 0) (by simpa using n)];rfl
theorem aay(x:Operand)(h:List T)(n:cr P t u z size bytes)(o:kU u=ab)(B:size<=h.length):
  cv P H ⟨d,.load t x,ty,pos,af,g⟩ [.aS h] (.agg ((h.take size).map .t)):=by
 intro C w X D F p;obtain⟨b,q,f,r,G,L,k,y⟩:=Ip p.1;refine⟨.agg ((gi size).map f).toArray,?_,.agg _ _ b6 λi c v a l=>?_⟩
 ·simp only[execOp,r,Instr.loadAt,Instr.sureAddr,fo,j6,fc];rw[n.Es w o (f:=f) λj Q=>k j O];rfl
 have m:i<size:=by
  have:=(b5.1 a).1;simp at this;omega
 rw[eQ,List.getElem?_take_of_lt m] at a;simp only[List.getElem?_toArray,List.getElem?_map,List.getElem?_range m,gS,Option.some.injEq] at l;cases e:h[i]? with
 |none=>rw[e] at a;simp at a
 |some A=>rw[e] at a;simp at a;rw[<-a,<-l];exact .t _ _ (y i A e)
theorem Yq(x:Operand)(m gen i a:Nat)(o:TypeId)(sz:Nat)(e:List (List T))(h:List T)(c:T)(F:cr P t u z size bytes)(G:kU u=ak)(B:H m=aa (.arr o gen sz e))(n:e[i]? =aa h)(L:h[a]? =aa c):
  cv P H ⟨d,.load t x,ty,pos,af,g⟩ [.cR m gen sz i a] (.t c):=by
 intro j w X v C Q;obtain⟨q,D⟩:=kx (C m _ B);obtain⟨b,p,R⟩:=qg Q.1 D;subst p;have a1:=D;rcases(C m _ B).2 with ⟨r,y⟩|⟨I,A,r,y,M,N,W⟩
 ·rw[y] at n;simp at n
 rw[a1] at r;cases r;have f:i<e.length:=(b5.1 n).1;have U:a<sz:=by
  grind
 have l:i*sz+a<A.size:=by
  have:(i+1)*sz<=e.length*sz:=dU _ f
  grind
 have k:w.cell? ⟨b,i*sz+a,aj⟩=aa A[i*sz+a]:=by simp[World.cell?,y,l]
 refine⟨A[i*sz+a],?_,.t _ _ (W i a h c _ n L (by simp[l]))⟩;simp[execOp,R,Instr.loadAt,Instr.sureAddr,F.Er w G k]
theorem YW(x:Operand)(o c k a:Nat)(p:Array Field)(e:Field)(q:TypeDesc)(r:Value)(h l:Nat)(y:P.underlying t=aa (.struct p))(A:p[k]? =aa e)(B:e.offset=a)(m:cr P e.type q r h l)(n:(h==0)=ak):
  cv P H ⟨d,.fieldAddr t x k,ty,pos,af,g⟩ [.ref o c] (.ref o (c+a)):=by
 intro G w X L Q C;obtain⟨b,D,F⟩:=sp C.1;have i:h≠0:=by simpa using n
 refine⟨.pointer (aa ⟨b,c+a,aj⟩),?_,.ref _ _ _ D⟩;simp[execOp,F,Instr.fieldAt,run_underlying y,A,Instr.sureAddr,fieldPlace,m.run_sizeOf,i,jA,B]
theorem aaC(x:Operand)(r:List T)(k a:Nat)(y:Array Field)(e:Field)(A:TypeDesc)(B:Value)(i n:Nat)(C:P.underlying t=aa (.struct y))(D:y[k]? =aa e)(F:e.offset=a)(o:cr P e.type A B i n)(p:(i==0)=ak):
  cv P H ⟨d,.fieldAddr t x k,ty,pos,af,g⟩ [.aS r] (.aS (r.drop a)):=by
 intro I w X M N G;have l:i≠0:=by simpa using p
 obtain⟨b,m,f,L,Q,R,q,W⟩:=Ip G.1;refine⟨.pointer (aa ⟨b,m+a,aj⟩),?_,.aS _ b (m+a) (λj=>f (a+j)) Q R (λj v=>?_) λj c h=>?_⟩
 ·simp[execOp,L,Instr.fieldAt,run_underlying C,D,Instr.sureAddr,fieldPlace,o.run_sizeOf,l,jA,F]
 ·rw[qu];exact q (a+j) (by simp at v;omega)
 exact W (a+j) c (by simpa using h)
theorem Ys(x:Operand)(l gen o i c k a:Nat)(C:Array Field)(e:Field)(L:TypeDesc)(Q:Value)(h p:Nat)(R:P.underlying t=aa (.struct C))(W:C[k]? =aa e)(f:e.offset=a)(r:cr P e.type L Q h p)(y:(h==0)=ak)
  (A:TypeId) (m:List (List T)) (D:H l=aa (.arr A gen o m)):cv P H ⟨d,.fieldAddr t x k,ty,pos,af,g⟩ [.cR l gen o i c] (.cR l gen o i (c+a)):=by
 intro I w X M F j;obtain⟨q,G⟩:=kx (F l _ D);obtain⟨b,B,v⟩:=qg j.1 G;subst B;have a1:=G;have n:h≠0:=by simpa using y
 refine⟨.pointer (aa ⟨b,i*o+(c+a),aj⟩),?_,.cR _ _ _ _ _ _ (F l _ D).1 a1⟩;simp[execOp,v,Instr.fieldAt,run_underlying R,W,Instr.sureAddr,fieldPlace,r.run_sizeOf,n,jA,f,Nat.add_assoc]
theorem aaB(x y:Operand)(e:TypeId)(k:List (List T))(l:List T)(n:Nat)(C:P.underlying t=aa (.slice e))(D:cr P e u z size bytes)(o:k[n]? =aa l)(F:l.length=size):
  cv P H ⟨d,.indexAddr t x y,ty,pos,af,g⟩ [.t (.bE k),.t (.int .i64 (n:Nat))] (.aS l):=by
 intro N w X G U A;have cK:=dS A.2.1;have L:n<k.length:=(b5.1 o).1;cases A.1 with
 |t _ _ h=>
  generalize Q:G x=v at h;cases h with
  |fW a p=>simp at o
  |bE _ b m i p f R W B q I r=>
   have M:i=size:=by rw[<-F];exact(q l (bT o)).symm
   subst M;refine⟨.pointer (aa ⟨b,m+n*i,aj⟩),?_,.aS _ b (m+n*i) (λj=>f n j) R W (λj V=>I n j L O) λj c h=>r n j l c o h⟩;simp[execOp,Q,cK,Instr.indexAt,asIntOf,run_underlying C,D.run_sizeOf,jA];intro h;omega
theorem fl{w:World}{L:Nat}{u:Value}(h:bt G w X (.bo L gen i m k) u)(c:G L=aa (q,gen)):
  (∃a b n ty,u= .slice (aa ⟨b,m*i,aj⟩) k a/\q=aa b/\b<w.heap.size/\w.shape? b=aa (ty,n)/\(m+a)*i=n/\k<=a/\a<=maxLen)\/
  (q=aj/\m=0/\k=0/\u= .slice aj 0 0):=by
 cases h with
 |bo _ _ _ _ _ a b n ty l e o p r x y=>rw[e] at c;cases c;exact .inl ⟨a,b,n,ty,rfl,rfl,o,p,r,x,y⟩
 |hb _ _ _ l e=>rw[e] at c;cases c;exact .inr ⟨rfl,rfl,rfl,rfl⟩
 |ks _ _ _ _ _ _ A g B e l=>rw[e] at c;cases c;omega
theorem YU(x y:Operand)(e:TypeId)(c gen a h n:Nat)(l:TypeId)(i:List (List T))(r:H c=aa (.arr l gen size i))(D:P.underlying t=aa (.slice e))(F:cr P e u z size bytes)(W:n<h):
  cv P H ⟨d,.indexAddr t x y,ty,pos,af,g⟩ [.bo c gen size a h,.t (.int .i64 (n:Nat))] (.cR c gen size (a+n) 0):=by
 intro f w X G A o;have cK:=dS o.2.1;generalize B:G x=v at o;have k:=o.1;simp only[B] at k;obtain⟨q,C⟩:=kx (A c _ r);rcases fl k C with ⟨L,b,m,Q,rfl,p,j,I,R,M,N⟩|⟨_,_,U,_⟩
 ·subst p;refine⟨.pointer (aa ⟨b,(a+n)*size+0,aj⟩),?_,.cR _ _ _ _ _ b (A c _ r).1 C⟩;simp[execOp,B,cK,Instr.indexAt,asIntOf,run_underlying D,F.run_sizeOf,jA,Nat.add_mul]
  grind
 omega
end oB
def V.one:V->Bool
 | .t _=>ab
 | .ref _ _=>ab
 | .aS _=>ab
 | .bo _ _ _ _ _=>ab
 | .cR _ _ _ _ _=>ab
 | .fn _ _=>ab
 | .agg _=>ak
 | .bX _=>ak
 | .dp=>ak
def oz:List V->Bool
 | []=>ab
 |v::a=>v.one&&oz a
theorem Gz: ∀{b:List V} {i:Nat} {v:V},oz b=ab->b[i]? =aa v->v.one=ab
 |v::b,0,_,h,a=>by simp at a;subst a;simp[oz] at h;exact h.1
 |v::b,i+1,_,h,a=>by simp at a;simp[oz] at h;exact Gz h.2 a
 | [],_,_,_,a=>by simp at a
def V.cs:V->List V
 | .agg cs=>cs
 |v=>[v]
def V.val:V->Bool
 | .agg _=>ab
 |v=>v.one
theorem bt.jF{w:World}{u:Value}(h:bt β w X v u)(a:v.one=ab):u.oneCell'=ab:=by
 cases h with
 |t x v h=>cases h<;>rfl
 |agg=>cases a
 |bX=>cases a
 |ref=>rfl
 |aS=>rfl
 |bo=>rfl
 |hb=>rfl
 |ks=>assumption
 |cR=>rfl
 |ls=>assumption
 |fn=>rfl
 |dp=>cases a
theorem xf{u:Value}(h:u.oneCell'=ab):u.cells= #[u]:=by cases u<;>first|rfl|cases h
theorem bt.cells{w:World}{u:Value}(h:bt β w X v u)(m:v.val=ab):
  u.cells.size=v.cs.length/\ ∀(i:Nat) c x,v.cs[i]? =aa c->u.cells[i]? =aa x->bt β w X c x:=by
 cases v with
 |agg cs=>
  cases h with|agg _ p o h=>exact⟨o,h⟩
 |bX=>cases m
 |dp=>cases m
 |t x=>
  have:=xf (h.jF rfl);rw[this];exact⟨rfl,λi c y k l=>by cases i with|zero=>simp[V.cs] at k l;subst k;subst l;exact h|succ n=>simp[V.cs] at k⟩
 |ref a b=>
  have:=xf (h.jF rfl);rw[this];exact⟨rfl,λi c y k l=>by cases i with|zero=>simp[V.cs] at k l;subst k;subst l;exact h|succ n=>simp[V.cs] at k⟩
 |aS a=>
  have:=xf (h.jF rfl);rw[this];exact⟨rfl,λi c y k l=>by cases i with|zero=>simp[V.cs] at k l;subst k;subst l;exact h|succ n=>simp[V.cs] at k⟩
 |bo a b c d e=>
  have:=xf (h.jF rfl);rw[this];exact⟨rfl,λi c y k l=>by cases i with|zero=>simp[V.cs] at k l;subst k;subst l;exact h|succ n=>simp[V.cs] at k⟩
 |cR a b c d e=>
  have:=xf (h.jF rfl);rw[this];exact⟨rfl,λi c y k l=>by cases i with|zero=>simp[V.cs] at k l;subst k;subst l;exact h|succ n=>simp[V.cs] at k⟩
 |fn a b=>
  have:=xf (h.jF rfl);rw[this];exact⟨rfl,λi c y k l=>by cases i with|zero=>simp[V.cs] at k l;subst k;subst l;exact h|succ n=>simp[V.cs] at k⟩
def S.new(s:S)(k:Nat)(e:E):S:={t:=s.t,H:=aZ s.H k (aa e),u:=aZ s.u k ab}
theorem Rel.KJ{K:Ctx}{s:S}{w:World}(h:Rel K β s a w)(k y:Nat)(R:s.u k=ak)(W:Array Value)(f:TypeId)(e:E)
  (U: ∀(p:Map) (N:Nat->Prop) (j:World),j=w.alloc (.cells W f)->p k=aa (aa w.heap.size,y)->(∀v u,bt β w (own K β s.H) v u->bt p j N v u)->(∀b,¬p.n k b)->cY p j N k e):
  Rel K (β.put k (aa (aa w.heap.size,y))) (s.new k e) a (w.alloc (.cells W f)):=by
 have l: ∀X,Ext X w (w.alloc (.cells W f)):=λX=>Ext.alloc X w _;have A:β k=aj:=h.dT _ R;have q: ∀id x,β id=aa x->β.put k (aa (aa w.heap.size,y)) id=aa x:=λid x F=>by
  rw[eS _ _ _ _ (by intro e;subst e;rw[A] at F;cases F)];exact F
 have G:=dX.of q;have m: ∀id b,At (β.put k (aa (aa w.heap.size,y))) id b->(id=k/\b=w.heap.size)\/(id≠k/\At β id b):=λid b a1=>by
  by_cases B:id=k
  ·subst B;rcases a1 with ⟨g,a1⟩|a1
   ·rw[iG] at a1;cases a1;exact .inl ⟨rfl,rfl⟩
   exact bs a1 (h.ev _ _ R)
  refine .inr ⟨B,?_⟩;rcases a1 with ⟨g,a1⟩|a1
  ·rw[eS _ _ _ _ B] at a1;exact .inl ⟨g,a1⟩
  exact .inr a1
 have r: ∀b,b<w.heap.size->own K (β.put k (aa (aa w.heap.size,y))) (aZ s.H k (aa e)) b->own K β s.H b:=by
  rintro b V (F|⟨id,D,L⟩)
  ·exact .inl F
  rcases m id b L with ⟨rfl,rfl⟩|⟨I,C⟩
  ·omega
  rw[cg _ _ _ _ I] at D;exact .inr ⟨id,D,C⟩
 have Q: ∀v u,bt β w (own K β s.H) v u->bt (β.put k (aa (aa w.heap.size,y))) (w.alloc (.cells W f)) (own K (β.put k (aa (aa w.heap.size,y))) (aZ s.H k (aa e))) v u:=
  λv u Y=>Y.mono (l _) r G (f8 (l _))
 refine {ext:=h.ext.trans ((l λ_=>False).weaken λ_ _ h=>h.elim),oY:=h.oY,o7:=h.o7,jK:=h.jK,rs:=h.rs,base:= ?_,jm:=h.jm.ext h.ext.size (l _),low:= ?_,dT:= ?_,ev:= ?_,inj:= ?_,fresh:= ?_,heap:= ?_,dB:=λi=>Q _ _ (h.dB i),nt:=h.nt,defers:=h.defers}
 ·refine h.base.keep λid hid=>?_
  have:=h.low id hid;rw[eS _ _ _ _ (by intro e;subst e;rw[R] at this;cases this)]
 ·intro id hid;show aZ s.u k ab id=ab;by_cases e:id=k
  ·subst e;exact cd _ _ _
  rw[cg _ _ _ _ e];exact h.low id hid
 ·intro id hid;have c:aZ s.u k ab id=ak:=hid;by_cases e:id=k
  ·subst e;rw[cd] at c;cases c
  rw[cg _ _ _ _ e] at c;rw[eS _ _ _ _ e];exact h.dT id c
 ·intro id b hid;have c:aZ s.u k ab id=ak:=hid;by_cases e:id=k
  ·subst e;rw[cd] at c;cases c
  rw[cg _ _ _ _ e] at c;exact h.ev id b c
 ·intro id M b D L;rcases m id b D with ⟨rfl,rfl⟩|⟨_,C⟩<;>rcases m M _ L with ⟨rfl,e⟩|⟨_,T⟩
  ·rfl
  ·have:=(h.fresh _ _ T).2;omega
  ·subst e;have:=(h.fresh _ _ C).2;omega
  exact h.inj _ _ _ C T
 ·intro id b a1;rcases m id b a1 with ⟨rfl,rfl⟩|⟨_,C⟩
  ·exact⟨.inr h.ext.size,a7⟩
  exact⟨(h.fresh _ _ C).1,by have:=(h.fresh _ _ C).2;simp;omega⟩
 intro id e' o;have o:aZ s.H k (aa e) id=aa e':=o;show aZ s.u k ab id=ab/\cY _ _ (own K _ (aZ s.H k (aa e))) id e';by_cases B:id=k
 ·subst B;rw[cd] at o;cases o;exact⟨cd _ _ _,U _ _ _ rfl (iG _ _ _) Q λb=>h.ev _ b R⟩
 rw[cg _ _ _ _ B] at o;obtain⟨D,L⟩:=h.heap id e' o;exact⟨by rw[cg _ _ _ _ B];exact D,L.mono (l _) r G (q id) (f8 (l _)) λb a1=>heap_alloc _ _ _ (h.fresh id b a1).2⟩
theorem Rel.new{K:Ctx}{s:S}{w:World}(h:Rel K β s a w)(k l:Nat)(o:s.u k=ak)(m:Array Value)(n:TypeId)(e:E)
  (p: ∀(b:Map) (i:Nat->Prop) (c:World),c=w.alloc (.cells m n)->b k=aa (aa w.heap.size,l)->(∀v u,bt β w (own K β s.H) v u->bt b c i v u)->cY b c i k e):
  Rel K (β.put k (aa (aa w.heap.size,l))) (s.new k e) a (w.alloc (.cells m n)):=
 h.KJ k l o m n e λb i c q r x _=>p b i c q r x
theorem Rel.D7{K:Ctx}{s:S}{w:World}(h:Rel K β s a w)(k:Nat)(n:s.u k=ak)(b:Array Value)(e:TypeId)(l:List V)(o:b.size=l.length)
  (p: ∀(i:Nat) c u,l[i]? =aa c->b[i]? =aa u->bt β w (own K β s.H) c u):
  Rel K (β.put k (aa (aa w.heap.size,0))) (s.new k (.cells l)) a (w.alloc (.cells b e)):=
 h.new k 0 n b e _ λq B C r x m=>⟨w.heap.size,b,e,x,by subst r;exact jQ _ _,o,λi c u y A=>m _ _ (p i c u y A)⟩
section ops
variable {K:Ctx}{s:S}{d:Option Tmp}{ty:TypeId}{pos:String}{af:Array Edge}{g:Option (Nat×Bool)}
variable {t:TypeId}{u:TypeDesc}{z:Value}{size bytes:Nat}
theorem U3(k:Nat)(c:s.u k=ak)(x:Operand)(v:V)(h: ∀i,d=aa i->dw i K.nt=ab)(l:s.get x=v)(m:v.val=ab):
  ef K ⟨d,.box t x,ty,pos,af,g⟩ s ((s.new k (.cells v.cs)).put d (.ref k 0)):=by
 intro q a w next Q e n
 subst l;obtain⟨o,p⟩:=(e.get x).cells m;unfold Oper.wp;have b:(execOp a.eval ⟨d,.box t x,ty,pos,af,g⟩).run K.P w= .ok (.value (.pointer (aa ⟨w.heap.size,0,aj⟩))) (w.alloc (.cells (a.eval x).cells t)):=by
  simp[execOp,Instr.box,newVar,newRow]
 rw[b];exact n _ _ _ ((e.D7 k c _ t _ o p).put d h (.ref _ _ _ (cd _ _ _)))
theorem afu(k:Nat)(c:s.u k=ak)(h: ∀i,d=aa i->dw i K.nt=ab)(l:cr K.P t u z size bytes)(m:(hz z).val=ab):
  ef K ⟨d,.alloc t,ty,pos,af,g⟩ s ((s.new k (.cells (hz z).cs)).put d (.ref k 0)):=by
 intro e a w next Q n o
 obtain⟨p,q⟩:=(Ah e w (own K e s.H) z).cells m;unfold Oper.wp;have b:(execOp a.eval ⟨d,.alloc t,ty,pos,af,g⟩).run K.P w= .ok (.value (.pointer (aa ⟨w.heap.size,0,aj⟩))) (w.alloc (.cells z.cells t)):=by
  simp[execOp,Instr.alloc,l.t',newVar,newRow]
 rw[b];exact o _ _ _ ((n.D7 k c _ t _ p q).put d h (.ref _ _ _ (cd _ _ _)))
def ng(b:List V)(a:Nat)(c:List V):List V:=b.take a++c++b.drop (a+c.length)
theorem Gu{w:World}{a c:Array Value}{e:TypeId}(l:w.heap[b]? =aa (.cells a e (0,0)))(i:c.size=a.size)(k:Nat):(w.setRow b c).shape? k=w.shape? k:=by
 by_cases h:k=b
 ·subst h;unfold gj;rw[setRow_heap _ _ _ _ _ _ l,l];simp[i]
 exact tz (setRow_other _ _ _ _ h)
theorem Rel.setRow{K:Ctx}{s:S}{w:World}(h:Rel K β s a w)(m b:Nat)(L:At β m b)(y:Array Value)(I:TypeId)(Q:w.heap[b]? =aa (.cells y I (0,0)))(q:Array Value)(A:q.size=y.size)(e:E)(R:s.H m≠aj)
  (N:cY β (w.setRow b q) (own K β s.H) m e):Rel K β {s with H:=aZ s.H m (aa e)} a (w.setRow b q):=by
 have r:own K β s.H b:= .inr ⟨m,R,L⟩;have p:Ext (own K β s.H) w (w.setRow b q):=⟨rfl,rfl,rfl,a7,λk _ D=>setRow_other _ _ _ _ λe=>D (e▸r)⟩
 have B:Shaped β w (w.setRow b q):=by
  intro l _;by_cases C:l=b
  ·subst C;unfold gj;rw[setRow_heap _ _ _ _ _ _ Q,Q];simp[A]
  exact tz (setRow_other _ _ _ _ C)
 have o: ∀l,own K β (aZ s.H m (aa e)) l->own K β s.H l:=by
  rintro l (D|⟨c,F,G⟩)
  ·exact .inl D
  by_cases x:c=m
  ·subst x;exact .inr ⟨c,R,G⟩
  rw[cg _ _ _ _ x] at F;exact .inr ⟨c,F,G⟩
 have W: ∀v u,bt β w (own K β s.H) v u->bt β (w.setRow b q) (own K β (aZ s.H m (aa e))) v u:=λv u T=>T.mono p (λl _=>o l) (dX.refl _) B;have Y:K.M b\/K.w0.heap.size<=b:=(h.fresh m b L).1;refine {h with ext:=h.ext.trans' ⟨rfl,rfl,rfl,a7,λk hk D=>setRow_other _ _ _ _ ?_⟩,jm:=λl U=>(Gu Q A l).trans (h.jm l U),fresh:= ?_,heap:= ?_,dB:=λi=>W _ _ (h.dB i)}
 ·intro e
  grind
 ·intro c l f;exact⟨(h.fresh c l f).1,by have:=(h.fresh c l f).2;simpa using this⟩
 intro c e' n;have n:aZ s.H m (aa e) c=aa e':=n;show s.u c=ab/\cY β (w.setRow b q) (own K β (aZ s.H m (aa e))) c e';by_cases x:c=m
 ·subst x;rw[cd] at n;cases n;cases j:s.H c with
  |none=>exact bs j R
  |some V=>
   exact⟨(h.heap c V j).1,N.mono (Ext.refl _ _) (λl _=>o l) (dX.refl _) (λ_ h=>h) (Shaped.refl _ _) λ_ _=>rfl⟩
 rw[cg _ _ _ _ x] at n;obtain⟨F,G⟩:=h.heap c e' n;exact⟨F,G.mono p (λl _=>o l) (dX.refl _) (λ_ h=>h) B λl X=>setRow_other _ _ _ _ λe=>x (h.inj c m l X (e▸L))⟩
theorem Nn(b e:List V)(a:Nat)(h:a+e.length<=b.length)(k l:List Value)(o:k.length=b.length)(p:l.length=e.length){R:V->Value->Prop}
  (q: ∀(i:Nat) c u,b[i]? =aa c->k[i]? =aa u->R c u) (r: ∀(i:Nat) c u,e[i]? =aa c->l[i]? =aa u->R c u):
  ∀(i:Nat) c u,(ng b a e)[i]? =aa c->(k.take a++l++k.drop (a+l.length))[i]? =aa u->R c u:=by
 intro i c u n m;simp only[ng,List.getElem?_append,hn,kI,List.getElem?_take,List.getElem?_drop] at n m
 grind
theorem FD{P:Program}(h:cr P t u z size bytes)(w:World)(b o:Nat)(a:Array Value)(c:TypeId)(v:Value)(i:w.heap[b]? =aa (.cells a c (0,0)))
  (e:v.cells.size=size) (l:o+size<=a.size) (k: ∀x∈v.cells.toList,x.oneCell'=ab):
  (storeVar t ⟨b,o,aj⟩ v).run P w= .ok () (w.setRow b (a.toList.take o++v.cells.toList++a.toList.drop (o+v.cells.toList.length)).toArray):=by
 have:=run_storeCells_at P b o c v.cells.toList 0 a w i (by simp[e];omega) k;simp only[storeVar,fo,h.run_sizeOf,fc,e,ne_eq,not_true,if_false]
 grind
theorem afs(x y:Operand)(r l:Nat)(A:List V)(v:V)(j:s.get x= .ref r l)(hy:s.get y=v)(I:s.H r=aa (.cells A))(fB:cr K.P t u z size bytes)
  (M:v.val=ab) (et:oz v.cs=ab) (hs:cc v.cs.length size=ab) (cC:dD (l+size) A.length=ab):
  ef K ⟨aj,.store t x y,ty,pos,af,g⟩ s {s with H:=aZ s.H r (aa (.cells (ng A l v.cs)))}:=by
 intro B a w next Q X hk
 subst hy;have C:=X.get x;rw[j] at C;obtain⟨b,f,N⟩:=sp C;obtain⟨hr,m,o,h1,D,h3,h4⟩:=(X.heap r _ I).2;rw[f] at h1;cases h1;obtain⟨T,c2⟩:=(X.get y).cells M;have U:(a.eval y).cells.size=size:=by rw[T];exact m0 hs
 have hle:l+size<=A.length:=fg cC;have F: ∀e∈(a.eval y).cells.toList,e.oneCell'=ab:=by
  intro e he;obtain⟨i,aJ⟩:=j1.1 he;have G:(a.eval y).cells[i]? =aa e:=by simpa using aJ
  have L:i<(s.get y).cs.length:=by rw[<-T];exact(iR.1 G).1
  exact(c2 i _ e (bu L) G).jF (Gz et (bu L))
 unfold Oper.wp;have R:=FD fB w b l m o (a.eval y) D U O F;have p:(execOp a.eval ⟨aj,.store t x y,ty,pos,af,g⟩).run K.P w= .ok .skip (w.setRow b (m.toList.take l++(a.eval y).cells.toList++m.toList.drop (l+(a.eval y).cells.toList.length)).toArray):=by
  simp only[execOp,N,Instr.storeAt,Instr.sureAddr,fo,j6,fc,R]
 rw[p];have n:(m.toList.take l++(a.eval y).cells.toList++m.toList.drop (l+(a.eval y).cells.toList.length)).length=m.size:=by
  grind
 refine hk B _ _ (Rel.setRow X r b (.inl ⟨_,f⟩) m o D _ (by simpa using n) (.cells (ng A l (s.get y).cs)) (by rw[I];simp) ?_);refine⟨b,_,o,f,setRow_heap _ _ _ _ _ _ D,?_,?_⟩
 ·simp only[List.size_toArray,n,h3];simp[ng]
  grind
 intro i c e bS he;have Y:own K B s.H b:= .inr ⟨r,by rw[I];simp,.inl ⟨_,f⟩⟩;have q: ∀v u,bt B w (own K B s.H) v u->bt B (w.setRow b (m.toList.take l++(a.eval y).cells.toList++m.toList.drop (l+(a.eval y).cells.toList.length)).toArray) (own K B s.H) v u:=by
  intro v u M;refine M.mono ⟨rfl,rfl,rfl,a7,λk _ j=>setRow_other _ _ _ _ λe=>j (e▸Y)⟩ (λ_ _ h=>h) (dX.refl _) ?_;intro hr _;by_cases W:hr=b
  ·subst W;unfold gj;rw[setRow_heap _ _ _ _ _ _ D,D]
   grind
  exact tz (setRow_other _ _ _ _ W)
 refine q _ _ (Nn A (s.get y).cs l (by have:=m0 hs;omega) m.toList (a.eval y).cells.toList (by simpa using h3) (by simpa using T) (λi c u h5 h6=>h4 i c u h5 (by simpa using h6)) (λi c u h5 h6=>c2 i c u h5 (by simpa using h6)) i c e bS ?_)
 grind
end ops
end
section oB
variable {P:Program}{H:Nat->Option E}{d:Option Tmp}{ty:TypeId}{pos:String}{af:Array Edge}{g:Option (Nat×Bool)}
variable {t:TypeId}{u:TypeDesc}{z:Value}{size bytes:Nat}
theorem Vm(x y:Operand)(t b:TypeId)(k:IntKind)(m n:Int):cv P H ⟨d,.binOp .sub t x y b,ty,pos,af,g⟩ [.t (.int k m),.t (.int k n)] (.t (.int k (k.wrap (m-n)))):=by intro c w X e _ a;refine⟨.int k (k.wrap (m-n)),?_,.t _ _ (.int _ _)⟩;simp[execOp,dS a.1,dS a.2.1,eqGuard,binOp,Op.intArith]
theorem U5(x y:Operand)(t b:TypeId)(k:IntKind)(m n:Int):cv P H ⟨d,.binOp .mul t x y b,ty,pos,af,g⟩ [.t (.int k m),.t (.int k n)] (.t (.int k (k.wrap (m*n)))):=by intro c w X e _ a;refine⟨.int k (k.wrap (m*n)),?_,.t _ _ (.int _ _)⟩;simp[execOp,dS a.1,dS a.2.1,eqGuard,binOp,Op.intArith]
theorem Vo(x y:Operand)(t b:TypeId)(k:IntKind)(m n:Int)(h:n≠0):cv P H ⟨d,.binOp .quo t x y b,ty,pos,af,g⟩ [.t (.int k m),.t (.int k n)] (.t (.int k (k.wrap (m.tdiv n)))):=by intro c w X e _ a;refine⟨.int k (k.wrap (m.tdiv n)),?_,.t _ _ (.int _ _)⟩;simp[execOp,dS a.1,dS a.2.1,eqGuard,binOp,Op.intDiv,h]
theorem Vn(x y:Operand)(t b:TypeId)(k:IntKind)(m n:Int)(h:n≠0):cv P H ⟨d,.binOp .rem t x y b,ty,pos,af,g⟩ [.t (.int k m),.t (.int k n)] (.t (.int k (m.tmod n))):=by intro c w X e _ a;refine⟨.int k (m.tmod n),?_,.t _ _ (.int _ _)⟩;simp[execOp,dS a.1,dS a.2.1,eqGuard,binOp,Op.intDiv,h]
theorem Vb(x y:Operand)(t b:TypeId)(k:IntKind)(m n:Int):cv P H ⟨d,.binOp .eql t x y b,ty,pos,af,g⟩ [.t (.int k m),.t (.int k n)] (.t (.bool (ai (m=n)))):=by intro c w X e _ a;refine⟨.bool (ai (m=n)),?_,.t _ _ (.bool _)⟩;simp[execOp,dS a.1,dS a.2.1,eqGuard,binOp,Op.intCmp];rfl
theorem Vq(x y:Operand)(t b:TypeId)(k:IntKind)(m n:Int):cv P H ⟨d,.binOp .neq t x y b,ty,pos,af,g⟩ [.t (.int k m),.t (.int k n)] (.t (.bool (!decide (m=n)))):=by intro c w X e _ a;refine⟨.bool (!decide (m=n)),?_,.t _ _ (.bool _)⟩;simp[execOp,dS a.1,dS a.2.1,eqGuard,binOp,Op.intCmp];rfl
theorem U8(x y:Operand)(t b:TypeId)(k:IntKind)(m n:Int):cv P H ⟨d,.binOp .lss t x y b,ty,pos,af,g⟩ [.t (.int k m),.t (.int k n)] (.t (.bool (ai (m<n)))):=by intro c w X e _ a;refine⟨.bool (ai (m<n)),?_,.t _ _ (.bool _)⟩;simp[execOp,dS a.1,dS a.2.1,eqGuard,binOp,Op.intCmp]
theorem U9(x y:Operand)(t b:TypeId)(k:IntKind)(m n:Int):cv P H ⟨d,.binOp .leq t x y b,ty,pos,af,g⟩ [.t (.int k m),.t (.int k n)] (.t (.bool (ai (m<=n)))):=by intro c w X e _ a;refine⟨.bool (ai (m<=n)),?_,.t _ _ (.bool _)⟩;simp[execOp,dS a.1,dS a.2.1,eqGuard,binOp,Op.intCmp]
theorem U'(x y:Operand)(t b:TypeId)(k:IntKind)(m n:Int):cv P H ⟨d,.binOp .gtr t x y b,ty,pos,af,g⟩ [.t (.int k m),.t (.int k n)] (.t (.bool (ai (n<m)))):=by intro c w X e _ a;refine⟨.bool (ai (n<m)),?_,.t _ _ (.bool _)⟩;simp[execOp,dS a.1,dS a.2.1,eqGuard,binOp,Op.intCmp]
theorem Va(x y:Operand)(t b:TypeId)(k:IntKind)(m n:Int):cv P H ⟨d,.binOp .geq t x y b,ty,pos,af,g⟩ [.t (.int k m),.t (.int k n)] (.t (.bool (ai (n<=m)))):=by intro c w X e _ a;refine⟨.bool (ai (n<=m)),?_,.t _ _ (.bool _)⟩;simp[execOp,dS a.1,dS a.2.1,eqGuard,binOp,Op.intCmp]
theorem Vc(x y:Operand)(t b:TypeId)(m n:List UInt8)(h:(m.length:Int)+n.length<=9223372036854775807):cv P H ⟨d,.binOp .add t x y b,ty,pos,af,g⟩ [.t (.str m),.t (.str n)] (.t (.str (m++n))):=by
 intro k w X l _ a;refine⟨.string ⟨(m++n).toArray⟩,?_,.t _ _ (.str _)⟩;have c:(ByteArray.mk m.toArray).size=m.length:=by simp[ByteArray.size]
 have e:(ByteArray.mk n.toArray).size=n.length:=by simp[ByteArray.size]
 have i:(ByteArray.mk m.toArray)++(ByteArray.mk n.toArray)=ByteArray.mk (m++n).toArray:=by
  apply ByteArray.ext;simp
 simp[execOp,hQ a.1,hQ a.2.1,eqGuard,binOp,Op.stringOp,c,e,i];exact h
theorem agl(x y:Operand)(t b:TypeId)(m n:List UInt8):cv P H ⟨d,.binOp .eql t x y b,ty,pos,af,g⟩ [.t (.str m),.t (.str n)] (.t (.bool (ai (m=n)))):=by
 intro c w X e _ a;refine⟨.bool (ai (m=n)),?_,.t _ _ (.bool _)⟩;simp[execOp,hQ a.1,hQ a.2.1,eqGuard,binOp,Op.stringOp]
 grind
theorem agf(x y:Operand)(t b:TypeId)(m n:List UInt8):cv P H ⟨d,.binOp .neq t x y b,ty,pos,af,g⟩ [.t (.str m),.t (.str n)] (.t (.bool (!decide (m=n)))):=by
 intro c w X e _ a;refine⟨.bool (!decide (m=n)),?_,.t _ _ (.bool _)⟩;simp[execOp,hQ a.1,hQ a.2.1,eqGuard,binOp,Op.stringOp]
 grind
theorem agk(x y:Operand)(t b:TypeId)(m n:List UInt8):cv P H ⟨d,.binOp .geq t x y b,ty,pos,af,g⟩ [.t (.str m),.t (.str n)] (.t (.bool (!Op.bytesLess m n))):=by intro c w X e _ a;refine⟨.bool (!Op.bytesLess m n),?_,.t _ _ (.bool _)⟩;simp[execOp,hQ a.1,hQ a.2.1,eqGuard,binOp,Op.stringOp]
theorem abY(x y:Operand)(l:List UInt8)(n:Nat)(b:UInt8)(e:P.underlying t=aa .string)(h:l[n]? =aa b):cv P H ⟨d,.index t x y,ty,pos,af,g⟩ [.t (.str l),.t (.int .i64 (n:Nat))] (.t (.int .u8 b.toNat)):=by
 intro k w X m _ c;refine⟨.int .u8 b.toNat,?_,.t _ _ (.int _ _)⟩;have i:(ByteArray.mk l.toArray)[n]? =aa b:=by
  have a:=(b5.1 h).1;have bZ:=(b5.1 h).2;rw[getElem?_pos _ _ (by simpa[ByteArray.size] using a)];simpa[ByteArray.getElem_eq_getElem_data] using bZ
 simp[execOp,hQ c.1,dS c.2.1,Instr.index,asIntOf,run_underlying e,i]
theorem Vp(x:Operand)(t:TypeId)(b:Bool):cv P H ⟨d,.unOp .not t x,ty,pos,af,g⟩ [.t (.bool b)] (.t (.bool (!b))):=by intro c w X e _ a;refine⟨.bool (!b),?_,.t _ _ (.bool _)⟩;simp[execOp,oa a.1,Op.unary]
theorem Wa(w:World)(n:Nat)(a b:Bool)(c:P.underlying t=aa .bool):(Op.equalIn (n+1) t (.bool a) (.bool b)).run P w= .ok (a==b) w:=by simp[Op.equalIn,run_underlying c]
theorem LJ(w:World)(a b:Bool)(c:P.underlying t=aa .bool):(Op.equal t (.bool a) (.bool b)).run P w= .ok (a==b) w:=Wa w 9999 a b c
theorem aaT(a b:Bool):binOp .eql t (.bool a) (.bool b)=(do pure (.bool (<-Op.equal t (.bool a) (.bool b)))):=rfl
theorem aaS(a b:Bool):binOp .neq t (.bool a) (.bool b)=(do pure (.bool (!(<-Op.equal t (.bool a) (.bool b))))):=rfl
theorem agb(x y:Operand)(b:TypeId)(m n:Bool)(c:P.underlying t=aa .bool):cv P H ⟨d,.binOp .eql t x y b,ty,pos,af,g⟩ [.t (.bool m),.t (.bool n)] (.t (.bool (m==n))):=by intro e w X h _ a;refine⟨.bool (m==n),?_,.t _ _ (.bool _)⟩;simp[execOp,oa a.1,oa a.2.1,eqGuard,aaT,LJ w m n c]
theorem aga(x y:Operand)(b:TypeId)(m n:Bool)(c:P.underlying t=aa .bool):cv P H ⟨d,.binOp .neq t x y b,ty,pos,af,g⟩ [.t (.bool m),.t (.bool n)] (.t (.bool (!(m==n)))):=by intro e w X h _ a;refine⟨.bool (!(m==n)),?_,.t _ _ (.bool _)⟩;simp[execOp,oa a.1,oa a.2.1,eqGuard,aaS,LJ w m n c]
theorem QD(x:Operand)(a b:TypeId)(k c:IntKind)(e:TypeDesc)(n:Int)(h:P.underlying a=aa e)(i:P.underlying b=aa (.int c)):cv P H ⟨d,.convert a b x,ty,pos,af,g⟩ [.t (.int k n)] (.t (.int c (c.wrap n))):=by intro m w X o _ l;refine⟨.int c (c.wrap n),?_,.t _ _ (.int _ _)⟩;simp only[execOp,dS l.1,convert,fo,run_underlying h,run_underlying i,fc];cases e<;>simp[Conv.intToInt]
theorem abF(x:Operand)(l:List UInt8)(a:P.underlying t=aa .string):cv P H ⟨d,.call {callee:= .builtin .len,args:= #[x],argTypes:= #[t]},ty,pos,af,g⟩ [.t (.str l)] (.t (.int .i64 (l.length:Nat))):=by
 intro i w X b _ c;refine⟨.int .i64 (l.length:Nat),?_,.t _ _ (.int _ _)⟩;have e:b x= .string ⟨l.toArray⟩:=hQ c.1;have h:(ByteArray.mk l.toArray).size=l.length:=by simp[ByteArray.size]
 simp[execOp,resolve,invoke,builtin,e,Builtin.len_,run_underlying a,goInt,h]
theorem agE{G:Map}{w:World}{X:Nat->Prop}{c:List (List T)}{u:Value}(h:bt G w X (.t (.bE c)) u): ∃a cap,u= .slice a c.length cap:=by
 cases h with
 |t _ _ h=>cases h with
  |fW a cap=>exact⟨a,cap,rfl⟩
  |bE _ b e size cap=>exact⟨_,cap,rfl⟩
theorem ab0(x:Operand)(e:TypeId)(b:List (List T))(h:P.underlying t=aa (.slice e)):cv P H ⟨d,.call {callee:= .builtin .len,args:= #[x],argTypes:= #[t]},ty,pos,af,g⟩ [.t (.bE b)] (.t (.int .i64 (b.length:Nat))):=by intro m w X i _ k;obtain⟨a,l,c⟩:=agE k.1;refine⟨.int .i64 (b.length:Nat),?_,.t _ _ (.int _ _)⟩;have c:i x=_:=c;simp[execOp,resolve,invoke,builtin,c,Builtin.len_,run_underlying h,goInt]
theorem abG(x:Operand)(e:TypeId)(n gen c i h:Nat)(r:P.underlying t=aa (.slice e))(o:TypeId)(k:List (List T))(s:H n=aa (.arr o gen c k)):cv P H ⟨d,.call {callee:= .builtin .len,args:= #[x],argTypes:= #[t]},ty,pos,af,g⟩ [.bo n gen c i h] (.t (.int .i64 (h:Nat))):=by
 intro y w X p A B;obtain⟨a,cap,l⟩: ∃a cap,p x= .slice a h cap:=by
  have C:bt y w X (.bo n gen c i h) (p x):=B.1;obtain⟨q,D⟩:=kx (A n _ s);rcases fl C D with ⟨cap,b,m,F,l,_⟩|⟨_,_,G,l⟩
  ·exact⟨_,_,l⟩
  exact⟨aj,0,by rw[G];exact l⟩
 refine⟨.int .i64 (h:Nat),?_,.t _ _ (.int _ _)⟩;simp[execOp,resolve,invoke,builtin,l,Builtin.len_,run_underlying r,goInt]
theorem abH(x:Operand)(a:List V)(k:Nat)(v:V)(h:a[k]? =aa v):cv P H ⟨d,.extract x k,ty,pos,af,g⟩ [.bX a] v:=by
 intro l w X c _ m;have e:bt l w X (.bX a) (c x):=m.1;generalize n:c x=y at e;cases e with
 |bX _ b o p=>
  have i:k<b.size:=by rw[o];exact(b5.1 h).1
  refine⟨b[k],?_,p k v b[k] h (by simp[i])⟩;simp[execOp,n,Instr.extract,i]
theorem MV(x:Operand)(v:V)(a:(match v with| .ref _ _=>ab| .aS _=>ab|_=>ak)=ab):cv P H ⟨d,.nilCheck x,ty,pos,af,g⟩ [v] v:=by
 intro h w X b _ i;have c:bt h w X v (b x):=i.1;refine⟨b x,?_,c⟩;generalize e:b x=y at c;cases c with
 |ref=>simp[execOp,e]
 |aS=>simp[execOp,e]
 |cR=>cases a
 |ls=>cases a
 |ks=>cases a
 |t=>cases a
 |agg=>cases a
 |bX=>cases a
 |bo=>cases a
 |hb=>cases a
 |fn=>cases a
 |dp=>cases a
theorem dx.fE: ∀{β:Map} {w:World} {X:Nat->Prop} {a:List V} {b:List Value},dx β w X a b->b.length=a.length/\ ∀(i:Nat) c u,a[i]? =aa c->b[i]? =aa u->bt β w X c u
 |_,_,_,[],[],_=>⟨rfl,λi c u h _=>by simp at h⟩
 |_,_,_,v::a,x::b,h=>by
  obtain⟨l,m⟩:=dx.fE h.2;refine⟨by simp[l],λi c u e k=>?_⟩;cases i with
  |zero=>simp at e k;subst e;subst k;exact h.1
  |succ i=>simp at e k;exact m i c u e k
 |_,_,_,[],_::_,h=>h.elim
 |_,_,_,_::_,[],h=>h.elim
theorem aax(f:FuncId)(a:Array Operand)(b:List V):cv P H ⟨d,.makeFunc (.func f) #[] a,ty,pos,af,g⟩ b (.fn f b):=by
 intro k w X h _ l;have e:dx k w X b (a.toList.map h):=by simpa[Op.operands] using l
 obtain⟨m,n⟩:=e.fE;exact⟨.func (.func f) #[] (a.map h),by simp[execOp,Instr.makeFunc],.fn f b _ (by simpa using m) λi c u o p=>n i c u o (by simpa using p)⟩
theorem U7(x y:Operand)(a:Array TypeId)(k:IntKind)(m n:Int):cv P H ⟨d,.call {callee:= .builtin .max,args:= #[x,y],argTypes:=a},ty,pos,af,g⟩ [.t (.int k m),.t (.int k n)] (.t (.int k (max m n))):=by
 intro o w X b _ c;refine⟨.int k (max m n),?_,.t _ _ (.int _ _)⟩;have e:b x= .int k m:=dS c.1;have h:b y= .int k n:=dS c.2.1;have i:(if n>m then n else m)=max m n:=by split<;>omega
 have l: ∀w,(Builtin.max_ a ty #[.int k m,.int k n]).run P w= .ok (.int k (max m n)) w:=by
  intro w;simp only[Builtin.max_,List.foldlM,Builtin.max2,i];rfl
 simp[execOp,resolve,invoke,builtin,e,h,l]
theorem U6(x y:Operand)(a:Array TypeId)(k:IntKind)(m n:Int):cv P H ⟨d,.call {callee:= .builtin .min,args:= #[x,y],argTypes:=a},ty,pos,af,g⟩ [.t (.int k m),.t (.int k n)] (.t (.int k (min m n))):=by
 intro l w X b _ c;refine⟨.int k (min m n),?_,.t _ _ (.int _ _)⟩;have e:b x= .int k m:=dS c.1;have h:b y= .int k n:=dS c.2.1;have i: ∀w,(Builtin.min_ a ty #[.int k m,.int k n]).run P w= .ok (.int k (min m n)) w:=by
  intro w;simp only[Builtin.min_,List.foldlM,Builtin.min2]
  first|rfl|(rw[show min m n=(if n<m then n else m) from by split<;>omega];rfl)
 simp[execOp,resolve,invoke,builtin,e,h,i]
end oB
section oB
variable {P:Program}{H:Nat->Option E}{d:Option Tmp}{ty:TypeId}{pos:String}{af:Array Edge}{g:Option (Nat×Bool)}
variable {t:TypeId}{u:TypeDesc}{z:Value}{size bytes:Nat}
theorem jS(w:World)(n:Nat)(y:Nat)(c:Go.BoundsCode)(h:n<=y):(Instr.sliceBound (.int .i64 (n:Nat)) y c).run P w= .ok n w:=by
 simp[Instr.sliceBound,asIntOf]
 grind
theorem Gc(l:List UInt8)(a b:Nat):(ByteArray.mk l.toArray).extract a b=ByteArray.mk ((l.take b).drop a).toArray:=by
 apply ByteArray.ext;rw[ByteArray.data_extract]
 grind
theorem YQ(x:Operand)(h i:Operand)(l:List UInt8)(a b:Nat)(k:P.underlying t=aa .string)(m:a<=b)(n:b<=l.length):
  cv P H ⟨d,.slice t x (aa h) (aa i) aj,ty,pos,af,g⟩ [.t (.str l),.t (.int .i64 (a:Nat)),.t (.int .i64 (b:Nat))] (.t (.str ((l.take b).drop a))):=by
 intro s w X c _ e;refine⟨.string ⟨((l.take b).drop a).toArray⟩,?_,.t _ _ (.str _)⟩;have o:c x=_:=hQ e.1;have p:c h=_:=dS e.2.1;have q:c i=_:=dS e.2.2.1;have r:(ByteArray.mk l.toArray).size=l.length:=by simp[ByteArray.size]
 simp[execOp,o,p,q,Instr.sliceAt,Instr.slice,run_underlying k,Instr.sliceBounds,r,jS w b l.length _ n,jS w a b _ m,Gc]
theorem Wb(x:Operand)(b:Operand)(l:List UInt8)(a:Nat)(h:P.underlying t=aa .string)(i:a<=l.length):
  cv P H ⟨d,.slice t x (aa b) aj aj,ty,pos,af,g⟩ [.t (.str l),.t (.int .i64 (a:Nat))] (.t (.str (l.drop a))):=by
 intro o w X c _ e;refine⟨.string ⟨(l.drop a).toArray⟩,?_,.t _ _ (.str _)⟩;have k:c x=_:=hQ e.1;have m:c b=_:=dS e.2.1;have n:(ByteArray.mk l.toArray).size=l.length:=by simp[ByteArray.size]
 simp[execOp,k,m,Instr.sliceAt,Instr.slice,run_underlying h,Instr.sliceBounds,n,jS w a l.length _ i,Gc]
theorem Wq(x:Operand)(a:Operand)(l:List UInt8)(b:Nat)(h:P.underlying t=aa .string)(i:b<=l.length):
  cv P H ⟨d,.slice t x aj (aa a) aj,ty,pos,af,g⟩ [.t (.str l),.t (.int .i64 (b:Nat))] (.t (.str (l.take b))):=by
 intro o w X c _ e;refine⟨.string ⟨(l.take b).toArray⟩,?_,.t _ _ (.str _)⟩;have k:c x=_:=hQ e.1;have m:c a=_:=dS e.2.1;have n:(ByteArray.mk l.toArray).size=l.length:=by simp[ByteArray.size]
 simp[execOp,k,m,Instr.sliceAt,Instr.slice,run_underlying h,Instr.sliceBounds,n,jS w b l.length _ i,Gc]
theorem cV.part{w:World}{X:Nat->Prop}{c:List (List T)}{v:Value}(h:cV w X (.bE c) v)(a b size:Nat)(V:a<=b)(B:b<=c.length)(o: ∀m,m∈c->m.length=size):
  ∃p k,v= .slice p c.length k/\c.length<=k/\cV w X (.bE ((c.take b).drop a)) (.slice (if k=a then p else p.map (·.add (a*size))) (b-a) (k-a)):=by
 cases h with
 |fW p k=>
  have Q:a=0:=by simp at B;omega
  have C:b=0:=by simp at B;omega
  subst Q;subst C;exact⟨p,k,rfl,a7,by simpa using cV.fW _ _⟩
 |bE _ R D l k f C W q r I M=>
  refine⟨_,k,rfl,q,?_⟩;have n:((c.take b).drop a).length=b-a:=b6
  by_cases F:a=b
  ·subst F;rw[show(c.take a).drop a=[] by simp];rw[lP];exact .fW _ _
  have G:c≠[]:=by intro e;subst e;simp at B;omega
  obtain⟨L,s⟩:=ET c G;have K:l=size:=by rw[<-r L s,o L s]
  subst K;rw[a8 O];simp only[gS,jA];rw[<-n];refine .bE _ R (D+a*l) l (k-a) (λi j=>f (a+i) j) C W (by rw[n];omega) (λm y=>o m (gP (fN y))) (λi j N S=>?_) λi j m x A U=>?_
  ·have:=I (a+i) j (by rw[n] at N;omega) S;rw[ed,<-qu] at this;exact this
  refine M (a+i) j m x ?_ U;rw[gq,gC] at A;split at A
  ·exact A
  cases A
theorem WC(x:Operand)(k:Operand)(e:TypeId)(b:List (List T))(a:Nat)(q:P.underlying t=aa (.slice e))(r:cr P e u z size bytes)(l:a<=b.length)(i: ∀c,c∈b->c.length=size):
  cv P H ⟨d,.slice t x (aa k) aj aj,ty,pos,af,g⟩ [.t (.bE b),.t (.int .i64 (a:Nat))] (.t (.bE (b.drop a))):=by
 intro s w X m _ n;have y:m k=_:=dS n.2.1;have A:bt s w X (.t (.bE b)) (m x):=n.1;cases A with
 |t _ _ h=>
  obtain⟨D,B,C,o,p⟩:=h.part a b.length size l (da _) i;rw[dR] at p;refine⟨_,?_,.t _ _ p⟩;simp[execOp,C,y,Instr.sliceAt,Instr.slice,run_underlying q,Instr.sliceBounds,jS w a b.length _ l,r.run_sizeOf]
theorem Xb(x:Operand)(l:Operand)(e:TypeId)(a:List (List T))(b:Nat)(q:P.underlying t=aa (.slice e))(r:cr P e u z size bytes)(s:b<=a.length)(i: ∀c,c∈a->c.length=size):
  cv P H ⟨d,.slice t x aj (aa l) aj,ty,pos,af,g⟩ [.t (.bE a),.t (.int .i64 (b:Nat))] (.t (.bE (a.take b))):=by
 intro y w X m _ n;have A:m l=_:=dS n.2.1;have B:bt y w X (.t (.bE a)) (m x):=n.1;cases B with
 |t _ _ h=>
  obtain⟨D,k,C,o,p⟩:=h.part 0 b size (Nat.zero_le _) s i;simp only[List.drop_zero] at p;refine⟨_,?_,.t _ _ p⟩;simp[execOp,C,A,Instr.sliceAt,Instr.slice,run_underlying q,Instr.sliceBounds,jS w b k _ O,r.run_sizeOf]
theorem aav(x:Operand)(o p:Operand)(e:TypeId)(c:List (List T))(a b:Nat)(s:P.underlying t=aa (.slice e))(y:cr P e u z size bytes)(q:a<=b)(A:b<=c.length)(k: ∀i,i∈c->i.length=size):
  cv P H ⟨d,.slice t x (aa o) (aa p) aj,ty,pos,af,g⟩ [.t (.bE c),.t (.int .i64 (a:Nat)),.t (.int .i64 (b:Nat))] (.t (.bE ((c.take b).drop a))):=by
 intro B w X l _ m;have C:l o=_:=dS m.2.1;have D:l p=_:=dS m.2.2.1;have F:bt B w X (.t (.bE c)) (l x):=m.1;cases F with
 |t _ _ h=>
  obtain⟨L,n,G,r,K⟩:=h.part a b size q A k;refine⟨_,?_,.t _ _ K⟩;simp[execOp,G,C,D,Instr.sliceAt,Instr.slice,run_underlying s,Instr.sliceBounds,jS w b n _ O,jS w a b _ q,y.run_sizeOf]
end oB
theorem cV.akC{w:World}{X:Nat->Prop}{a:List (List T)}{e:Option Addr}{n i:Nat}(h:cV w X (.bE a) (.slice e n i))(c:Nat)(p:n<=c):cV w X (.bE a) (.slice e n c):=by
 cases h with
 |fW=>exact .fW _ c
 |bE _ b k size _ f q r o l m s=>exact .bE a b k size c f q r p l m s
theorem Yn{P:Program}{H:Nat->Option E}{d:Option Tmp}{ty t:TypeId}{pos:String}{af:Array Edge}{g:Option (Nat×Bool)}{u:TypeDesc}{z:Value}{n i:Nat}(x r s:Operand)(e:TypeId)(a:List (List T))(b:Nat)(C:P.underlying t=aa (.slice e))(D:cr P e u z n i)(F:b<=a.length)(l: ∀c,c∈a->c.length=n):
  cv P H ⟨d,.slice t x aj (aa r) (aa s),ty,pos,af,g⟩ [.t (.bE a),.t (.int .i64 (b:Nat)),.t (.int .i64 (b:Nat))] (.t (.bE (a.take b))):=by
 intro G w X m _ o;have K:m r=_:=dS o.2.1;have L:m s=_:=dS o.2.2.1;have Q:bt G w X (.t (.bE a)) (m x):=o.1;cases Q with
 |t _ _ h=>
  obtain⟨y,k,R,A,p⟩:=h.part 0 b n (Nat.zero_le _) F l;simp only[List.drop_zero,Nat.zero_mul,Nat.sub_zero] at p;have q:cV w X (.bE (a.take b)) (.slice (if b=0 then y else y.map (·.add 0)) b b):=by
   by_cases B:b=0
   ·subst B;exact .fW _ _
   rw[a8 (show¬k=0 by omega)] at p;rw[a8 B];exact p.akC b (da _)
  refine⟨_,?_,.t _ _ q⟩;simp[execOp,R,K,L,Instr.sliceAt,Instr.slice,run_underlying C,Instr.sliceBounds,jS w b k _ O,jS w b b _ (Nat.le_refl _),D.run_sizeOf]
section
def qO(e:Map)(w:World)(X:Nat->Prop)(a:List V)(b:List Value):Prop:=b.length=a.length/\ ∀(i:Nat) c u,a[i]? =aa c->b[i]? =aa u->bt e w X c u
variable {w:World}{X:Nat->Prop}{o:Oper}{vals:List V}{v:V}{n:Nat}
theorem qO.ng{G:Map}{Y a:List V}{b c:List Value}(h:qO G w X Y b)(k:qO G w X a c)(e:Nat)(i:e+a.length<=Y.length):
  qO G w X (ng Y e a) (b.take e++c++b.drop (e+c.length)):=by refine⟨?_,Nn Y a e i b c h.1 k.1 h.2 k.2⟩;have l:=h.1;have ct:=k.1;simp[Lift.ng];omega
theorem OU: ∀(b:List Value) (k a:Nat) (cells:Array Value),a+k+b.length<=cells.size->
  (b.zipIdx k).foldl (λcs (p:Value×Nat)=>cs.setIfInBounds (a+p.2) p.1) cells=(cells.toList.take (a+k)++b++cells.toList.drop (a+k+b.length)).toArray
 | [],k,a,cells,_=>a7
 |v::b,k,a,cells,h=>by simp only[List.zipIdx_cons,List.foldl_cons];simp only[j5] at h;rw[OU b (k+1) a _ b6];have e:=list_seg_step cells.toList (a+k) v b b6;simp only[Array.toList_setIfInBounds,j5];congr 1
def lg(a:Nat->Option (Nat×Nat))(e:List V):List (Nat×V)->Option (List V)
 | []=>aa e
 |(i,v)::b=>match a i with
  |none=>aj
  |some (c,size)=>bif v.val&&cc v.cs.length size&&dD (c+size) e.length then lg a (ng e c v.cs) b else aj
theorem uz{β:Map}{w:World}{X:Nat->Prop}(a:Nat->Option (Nat×Nat)): ∀(is:List Nat) (e:List V) (B:List Value) (cs:List V) (k:Array Value) (m:List V),qO β w X cs k.toList->dx β w X e B->is.length=e.length->
  lg a cs (is.zip e)=aa m-> ∃n,Instr.fill a k (is.zip B)=aa n/\qO β w X m n.toList
 | [],[],[],cs,k,m,h,_,_,l=>by simp[lg] at l;subst l;exact⟨k,rfl,h⟩
 |i::is,v::e,x::B,cs,k,m,h,y,A,l=>by
  simp only[List.zip_cons_cons,lg] at l;cases D:a i with
  |none=>rw[D] at l;cases l
  |some q=>
   obtain⟨b,size⟩:=q;rw[D] at l;simp only[] at l;cases C:(v.val&&cc v.cs.length size&&dD (b+size) cs.length) with
   |false=>rw[C] at l;cases l
   |true=>
    rw[C,cond_true] at l;simp only[cx] at C;obtain⟨⟨W,cB⟩,R⟩:=C;have cB:=m0 cB;have R:=fg R;obtain⟨F,f⟩:=y.1.cells W;have j:k.size=cs.length:=by simpa using h.1
    have G:qO β w X v.cs x.cells.toList:=⟨by simpa using F,λi c u L Q=>f i c u L (by simpa using Q)⟩
    have o:=h.ng G b O;have r:x.cells.zipIdx.foldl (λcs (p:Value×Nat)=>cs.setIfInBounds (b+p.2) p.1) k=(k.toList.take b++x.cells.toList++k.toList.drop (b+x.cells.toList.length)).toArray:=by
     rw[<-Array.foldl_toList,Array.toList_zipIdx]
     have:=OU x.cells.toList 0 b k (by simp[F];omega);simpa using this
    obtain⟨n,L,Q⟩:=uz a is e B (ng cs b v.cs) (k.toList.take b++x.cells.toList++k.toList.drop (b+x.cells.toList.length)).toArray m (by simpa using o) y.2 (by simpa using A) l;refine⟨n,?_,Q⟩;simp only[List.zip_cons_cons,Instr.fill,D];rw[a8 (by simp[F];omega),r];exact L
 | [],_::_,_,_,_,_,_,_,A,_=>by simp at A
 |_::_,[],_,_,_,_,_,_,A,_=>by simp at A
 | [],[],_::_,_,_,_,_,y,_,_=>y.elim
 |_::_,_::_,[],_,_,_,_,y,_,_=>y.elim
theorem w1(b:Operand->Value): ∀a:List (Nat×Operand),a.map (λp=>(p.1,b p.2))=(a.map (·.1)).zip ((a.map (·.2)).map b)
 | []=>rfl
 |p::a=>by simp only[List.map_cons,List.zip_cons_cons,w1 b a]
def CY(P:Program)(H:Nat->Option E)(o:Oper)(a:List V)(v:V):Prop:=
 ∀(c:Map) (w:World) (X:Nat->Prop) (i:Operand->Value),(∀id e,H id=aa e->cY c w X id e)->(∀b,X b->b<w.heap.size)->
  dx c w X a (o.op.operands.toList.map i)-> ∃u h,(execOp i o).run P w= .ok (.value u) h/\Ext (λ_=>False) w h/\bt c h X v u
theorem cv.g{P:Program}{H:Nat->Option E}(h:cv P H o vals v):CY P H o vals v:=
 λa w X b c _ e=>let ⟨u,i,k⟩:=h a w X b c e;⟨u,w,i,Ext.refl _ _,k⟩
theorem Rel.KM{K:Ctx}{β:Map}{s:S}{a:Act}(c:Rel K β s a w): ∀b,own K β s.H b->b<w.heap.size:=by
 rintro b (e|⟨id,_,h⟩)
 ·exact lN (c.jK b e).1 c.ext.size
 exact(c.fresh id b h).2
theorem Ln{K:Ctx}{s:S}(m: ∀i,o.dst=aa i->dw i K.nt=ab)(n:fG (o.op.operands.toList.map s.get) vals)(h:CY K.P s.H o vals v):
  ef K o s (s.put o.dst v):=by
 intro k a w next Q c p
 obtain⟨u,q,b,l,r⟩:=h k w (own K k s.H) a.eval (λid e l=>(c.heap id e l).2) c.KM ((c.oX _).le n);unfold Oper.wp;rw[b];exact p k _ q ((c.grow l).put o.dst m r)
section ops
variable {P:Program}{H:Nat->Option E}{d:Option Tmp}{ty:TypeId}{pos:String}{af:Array Edge}{g:Option (Nat×Bool)}
variable {t:TypeId}{u:TypeDesc}{z:Value}{size bytes:Nat}
theorem BW(b:Map)(w:World)(X:Nat->Prop)(us:List Value)(n:Nat)(h:us.length=n):qO b w X (dE n .dp) us:=
 ⟨by simp[h],λi c u a _=>by
  rw[ui] at a;split at a
  ·cases a;exact .dp _
  cases a⟩
theorem ae9(h:Array (Nat×Operand))(C:Array Field)(a:Array (Nat×Nat))(b k:List V)(D:cr P t (.struct C) z size bytes)
  (F: ∀w,(C.mapM (m:=Sem) λf:Field=>do pure (f.offset,<-sizeOf f.type)).run P w= .ok a w) (G:(hz z).val=ab) (l:cc h.toList.length b.length=ab)
  (L:lg (a[·]?) (hz z).cs ((h.toList.map (·.1)).zip b)=aa k):cv P H ⟨d,.build t h,ty,pos,af,g⟩ b (.agg k):=by
 intro p w X n _ Q;have q:dx p w X b ((h.toList.map (·.2)).map n):=by simpa[Op.operands] using Q
 obtain⟨R,W⟩:=(Ah p w X z).cells G;obtain⟨r,y,o⟩:=uz (β:=p) (w:=w) (X:=X) (a[·]?) (h.toList.map (·.1)) b _ (hz z).cs z.cells k ⟨by simpa using R,λi c u y o=>W i c u y (by simpa using o)⟩ q (by simpa using m0 l) L;refine⟨.agg r,?_,.agg _ _ (by simpa using o.1) λi c u j v=>o.2 i c u j (by simpa using v)⟩;have A:=w1 n h.toList;have B:=F w;simp only[execOp,Instr.build,fo,D.t',fc,run_underlying D.1];rw[B];simp only[fc,Array.toList_map];have e:(h.toList.map λx=>match x with|(i,x)=>(i,n x))=(h.toList.map (·.1)).zip ((h.toList.map (·.2)).map n):=by rw[<-A]
 rw[e,y];rfl
theorem OQ(x:Operand)(k:Nat)(B:Array Field)(e:Field)(l:List V)(v:V){a:TypeDesc}{b:Value}{m:Nat}(C:cr P t (.struct B) z size bytes)(D:B[k]? =aa e)(h:cr P e.type a b n m)
  (p:(kU a=ab/\dD (e.offset+n) l.length=ab/\v= .agg ((l.drop e.offset).take n))\/(kU a=ak/\l[e.offset]? =aa v)):cv P H ⟨d,.field t x k,ty,pos,af,g⟩ [.agg l] v:=by
 intro W w X F _ o;have G:bt W w X (.agg l) (F x):=o.1;generalize L:F x=y at G;cases G with
 |agg _ q f Q=>
  rcases p with ⟨o,j,rfl⟩|⟨o,p⟩
  ·have I:=fg j;refine⟨.agg (q.extract e.offset (e.offset+n)),?_,.agg _ _ b6 λi c u A r=>?_⟩
   ·simp[execOp,L,Instr.field,run_underlying C.1,D,asAgg,part,h.Ep,h.run_sizeOf,o]
   have M:i<n:=by
    have:=(b5.1 A).1;simp at this;omega
   rw[List.getElem?_take_of_lt M,gq] at A;refine Q (e.offset+i) c u A ?_;rw[Array.getElem?_extract] at r;split at r
   ·exact r
   cases r
  have R:e.offset<q.size:=by rw[f];exact(b5.1 p).1
  refine⟨q[e.offset],?_,Q _ v q[e.offset] p (by simp[R])⟩;simp[execOp,L,Instr.field,run_underlying C.1,D,asAgg,part,h.Ep,o,R]
theorem LV(n:Nat)(m:Array (Nat×Operand))(e:TypeId)(k:List V)(a:List (List T))(hu:P.underlying t=aa (.slice e))(N:cr P e u z size bytes)(A:cc m.toList.length k.length=ab)
  (cK:cc a.length n=ab) (o: ∀c,c∈a->c.length=size) (B:dD (n*size) 16777216=ab)
  (iI:lg (λi=>aa (i*size,size)) (dE (n*size) .dp) ((m.toList.map (·.1)).zip k)=aa (a.flatten.map .t)):
  CY P H ⟨d,.buildSlice t n m,ty,pos,af,g⟩ k (.t (.bE a)):=by
 intro U w X C _ gZ hT;have R:=m0 cK;have W:dx U w X k ((m.toList.map (·.2)).map C):=by simpa[Op.operands] using hT
 have f:=w1 C m.toList;obtain⟨l,p,y⟩:=uz (β:=U) (w:=w) (X:=X) (λi=>aa (i*size,size)) (m.toList.map (·.1)) k _ (dE (n*size) .dp)
  ((Array.range (n*size)).map ((if n*size=0 then #[] else z.cells)[· %(if n*size=0 then #[] else z.cells).size]!)) _ (BW _ _ _ _ _ a7) W (by simpa using m0 A) iI
 have D:(execOp C ⟨d,.buildSlice t n m,ty,pos,af,g⟩).run P w= .ok (.value (.slice (aa ⟨w.heap.size,0,aj⟩) n n)) (w.alloc (.cells l e)):=by
  have Y:(m.toList.map λx=>match x with|(i,x)=>(i,C x))=(m.toList.map (·.1)).zip ((m.toList.map (·.2)).map C):=by rw[<-f]
  have v: ¬(n*size>2^24):=by have:=fg B;omega
  simp only[execOp,Instr.buildSlice,fo,run_underlying hu,fc,N.run_sizeOf,v,if_false,Array.toList_map];by_cases L:n*size=0
  ·simp only[L,if_true] at p;simp only[L,if_true,j6,fo,fc];rw[Y,p];rfl
  simp only[L,if_false] at p;simp only[L,if_false,j6,fo,N.t',fc];rw[Y,p];rfl
 refine⟨_,_,D,Ext.alloc _ _ _,.t _ _ ?_⟩;subst R;have q:l.size=a.flatten.length:=by
  have h:=y.1
  grind
 have I:a.flatten.length=a.length*size:=by
  rw[List.length_flatten]
  have:a.map List.length=dE a.length size:=List.eq_replicate_iff.2 ⟨a7,λb v=>by obtain⟨r,b8,rfl⟩:=eK.1 v;exact o r b8⟩;rw[this];simp
 have F: ∀(a:List (List T)),(∀c,c∈a->c.length=size)-> ∀(i j:Nat) (c:List T) (x:T),a[i]? =aa c->c[j]? =aa x->a.flatten[i*size+j]? =aa x:=by
  intro a;induction a with
  |nil=>intro _ i j c x h _;simp at h
  |cons r a mU=>
   intro hs i j c x p y;have b8:=hs r a7;rw[List.flatten_cons];cases i with
   |zero=>
    simp at p;subst p
    have:=(b5.1 y).1;rw[gQ,dI,jI this];exact y
   |succ i=>
    simp at p;rw[jr (by rw[b8,ed];omega)];rw[show(i+1)*size+j-r.length=i*size+j by rw[b8,ed];omega];exact mU (λc h=>hs c (by simp[h])) i j c x p y
 have G: ∀i j,i<a.length->j<size->i*size+j<l.size:=by
  intro i j aJ Q;rw[q,I]
  have:(i+1)*size<=a.length*size:=dU _ aJ
  grind
 refine .bE a w.heap.size 0 size a.length (λi j=>l.getD (i*size+j) undef) a7 (λh=>by have:=gZ _ h;omega) (da _) o (λi j aJ Q=>?_) λi j c x M h4=>?_
 ·rw[dI,World.cell?_alloc_new]
  have:=G i j aJ Q;simp[this]
 have h5:=F a o i j c x M h4;have aJ:=(b5.1 M).1;have Q:j<size:=by rw[<-o c (bT M)];exact(b5.1 h4).1
 have h6:=G i j aJ Q;have mR:=y.2 (i*size+j) (.t x) l[i*size+j] (by rw[eQ,h5];rfl) (by simp[h6]);cases mR with
 |t _ _ h=>
  have:l.getD (i*size+j) undef=l[i*size+j]:=by simp[h6]
  rw[this];exact h.mono (Ext.alloc X _ _) λ_ _ h=>h
end ops
theorem pc{i j size:Nat}(a:i<n)(b:j<size):i*size+j<n*size:=by
 have:(i+1)*size<=n*size:=dU _ a
 grind
section ops
variable {K:Ctx}{s:S}{d:Option Tmp}{ty:TypeId}{pos:String}{af:Array Edge}{g:Option (Nat×Bool)}
variable {t:TypeId}{u:TypeDesc}{z:Value}{size bytes:Nat}
theorem QP(k:Nat)(hk:s.u k=ak)(l c:Operand)(e:TypeId)(m:Nat)(b:List T)(cO: ∀i,d=aa i->dw i K.nt=ab)(hu:K.P.underlying t=aa (.slice e))(he:cr K.P e u z size bytes)
  (cC:s.get l= .t (.int .i64 (m:Nat))) (bS:s.get c= .t (.int .i64 (m:Nat))) (ep:(hz z).cs=b.map .t) (D:(hz z).val=ab) (hs:cc b.length size=ab) (o:dw 0 size=ab) (hm:m*bytes<=281474976710656) (DG:m<=9223372036854775807):
  ef K ⟨d,.makeSlice t l c,ty,pos,af,g⟩ s ((s.new k (.arr e 1 size (dE m b))).put d (.bo k 1 size 0 m)):=by
 intro F a w next Q W X
 have G:=W.get l;rw[cC] at G;have L:=W.get c;rw[bS] at L;have G:=dS G;have L:=dS L;have p:=m0 hs;have hp:0<size:=by simpa[Nat.blt_eq] using o
 obtain⟨c1,c2⟩:=(Ah F w (own K F s.H) z).cells D;have q:z.cells.size=size:=by rw[c1,ep];simpa using p
 have r:(execOp a.eval ⟨d,.makeSlice t l c,ty,pos,af,g⟩).run K.P w= .ok (.value (.slice (aa ⟨w.heap.size,0,aj⟩) m m)) (w.alloc (.cells ((Array.range (m*size)).map (z.cells[· %z.cells.size]!)) e)):=by
  obtain⟨_,i,f,v,I,rl⟩:=he;have a1:(i.bytes:Int)*(m:Int)<=281474976710656:=by
   grind
  have:=run_make (P:=K.P) w t e i z hu f v .i64 .i64 m m O (gR _) a1 O;simp only[Int.toNat_natCast,I,madeCells] at this;simp only[execOp,G,L,fo,this,fc];rfl
 unfold Oper.wp;rw[r];have A:=W.new k 1 hk ((Array.range (m*size)).map (z.cells[· %z.cells.size]!)) e (.arr e 1 size (dE m b)) λβ' X' w' hw cK M=>⟨da _,Or.inr ⟨w.heap.size,_,cK,by subst hw;exact jQ _ _,?_,?_,?_⟩⟩
 ·have N:(w.alloc (.cells ((Array.range (m*size)).map (z.cells[· %z.cells.size]!)) e)).heap.size=w.heap.size+1:=World.size_alloc ..;have U:(w.alloc (.cells ((Array.range (m*size)).map (z.cells[· %z.cells.size]!)) e)).shape? w.heap.size=aa (e,m*size):=by unfold gj;rw[jQ];simp
  have D:bt (F.put k (aa (aa w.heap.size,1))) (w.alloc (.cells ((Array.range (m*size)).map (z.cells[· %z.cells.size]!)) e)) (own K (F.put k (aa (aa w.heap.size,1))) (s.new k (.arr e 1 size (dE m b))).H) (.bo k 1 size 0 m)
    (.slice (aa ⟨w.heap.size,0*size,aj⟩) m m):= .bo k 1 size 0 m m w.heap.size (m*size) e (da _) (cd _ _ _) (N▸pt _) U (by rw[dI]) (da _) (by unfold maxLen;omega)
  rw[gQ] at D;exact X _ _ _ (A.put d cO D)
 ·simp
 ·intro V rn
  grind
 intro i j V x y R hj Y;rw[ui] at R;split at R
 ·rename_i aip;cases R;have n:j<size:=by rw[<-p];exact(b5.1 hj).1
  have B:=pc aip n;simp only[Array.getElem?_map,Array.getElem?_range,B,if_true,gS,Option.some.injEq] at Y;have C:(i*size+j)%z.cells.size=j:=by rw[q,Nat.add_comm,Nat.add_mul_mod_self_right,Nat.mod_eq_of_lt n]
  rw[C] at Y;have ajq:z.cells[j]? =aa y:=by rw[<-Y];rw[getElem!_pos _ _ O];simp[q,n]
  have h3:=c2 j (.t x) y (by rw[ep,eQ,hj];rfl) ajq;have h4:=M _ _ h3;cases h4 with|t _ _ h=>exact h
 cases R
def Src(w:World)(X:Nat->Prop)(c:Nat)(a:List (List T))(u:Value):Prop:=
 (u= .slice aj 0 0/\a=[])\/ ∃(b e l:Nat) (k:List Value),u= .slice (aa ⟨b,e,aj⟩) a.length l/\k.length=a.length*c/\
  (∀(j:Nat) x,k[j]? =aa x->w.cell? ⟨b,e+j,aj⟩=aa x)/\(∀x,x∈k->x.oneCell'=ab)/\
  ∀(i j:Nat) (h:List T) (x:T) (y:Value),a[i]? =aa h->h[j]? =aa x->k[i*c+j]? =aa y->cV w X x y
theorem cV.jF{x:T}{u:Value}(h:cV w X x u):u.oneCell'=ab:=by cases h<;>rfl
theorem BK{N:Map}{size:Nat}{e:List (List T)}{u:Value}(h:bt N w X (.t (.bE e)) u)(F: ∀k,k∈e->k.length=size)(r:0<size):
  Src w X size e u\/(e=[]/\ ∃a l,u= .slice a 0 l):=by
 cases h with
 |t _ _ h=>cases h with
  |fW a l=>exact .inr ⟨rfl,a,l,rfl⟩
  |bE _ b G c l f a1 gZ v n U I=>
   by_cases A:e=[]
   ·subst A;exact .inr ⟨rfl,_,_,rfl⟩
   obtain⟨M,B⟩:=ET e A;have L:c=size:=by rw[<-n M B,F M B]
   subst L;refine .inl (.inr ⟨b,G,l,(gi (e.length*c)).map λm=>f (m / c) (m%c),rfl,a7,λj x p=>?_,λx V=>?_,λi j k x y q Q D=>?_⟩)
   ·rw[eQ] at p;cases o:(gi (e.length*c))[j]? with
    |none=>rw[o] at p;cases p
    |some R=>
     rw[o] at p;have C:j<e.length*c:=by simpa using (b5.1 o).1
     have W:R=j:=by rw[List.getElem?_range C] at o;cases o;rfl
     subst W;simp at p;rw[<-p]
     have:=U (R / c) (R%c) (by rw[xa r];exact C) (Nat.mod_lt _ r);rw[qu,Nat.mul_comm,Nat.div_add_mod] at this;exact this
   ·obtain⟨m,hm,rfl⟩:=eK.1 V;have hm:=qt.1 hm;have q:m / c<e.length:=by rw[xa r];exact hm
    have Q:=Nat.mod_lt m r;have D:=n e[m / c] (gg q);exact(I (m / c) (m%c) e[m / c] (e[m / c])[m%c] (bu q) (bu O)).jF
   have p:j<c:=by rw[<-n k (bT q)];exact(b5.1 Q).1
   have aJ:=(b5.1 q).1;rw[eQ,List.getElem?_range (pc aJ p)] at D;simp at D;rw[<-D];have Y:(i*c+j) / c=i:=by rw[Nat.mul_comm,Nat.mul_add_div r,Nat.div_eq_of_lt p,r0]
   rw[Y,Nat.mod_eq_of_lt p];exact I i j k x q Q
end ops
end
variable {G:Map}{k n:Nat}{w:World}
theorem Ct{gen:Nat}(q:Option Nat)(b:Option Nat)(e:1<=gen)(h:G k=aa (q,gen)):dX G (G.put k (aa (b,gen+1))):=by
 intro id i l a;by_cases c:id=k
 ·subst c;rw[h] at a;cases a;exact .inr ⟨e,b,gen+1,iG _ _ _,pt _⟩
 exact .inl (by rw[eS _ _ _ _ c];exact a)
theorem uA{K:Ctx}{s:S}{a:Act}(h:Rel K G s a w):Rel K G s a w.drew:=h.grow (Ext.drew _ _)
theorem xw{size:Nat}{rows news:List (List T)}(c m e:List Value)(o:rows.length=n)(p:c.length=n*size)(D:m.length=news.length*size)(A: ∀a,a∈rows->a.length=size)(q: ∀a,a∈news->a.length=size){R:T->Value->Prop}
  (F: ∀(i j:Nat) (a:List T) (x:T) (u:Value),rows[i]? =aa a->a[j]? =aa x->c[i*size+j]? =aa u->R x u)
  (G: ∀(i j:Nat) (a:List T) (x:T) (u:Value),news[i]? =aa a->a[j]? =aa x->m[i*size+j]? =aa u->R x u):
  ∀(i j:Nat) (a:List T) (x:T) (u:Value),(rows++news)[i]? =aa a->a[j]? =aa x->(c++m++e)[i*size+j]? =aa u->R x u:=by
 intro i j a x u h w B;by_cases k:i<rows.length
 ·rw[jI k] at h;have b:j<size:=by rw[<-A a (bT h)];exact(b5.1 w).1
  have l:i*size+j<c.length:=by rw[p,<-o];exact pc k b
  grind
 rw[jr O] at h;have b:j<size:=by rw[<-q a (bT h)];exact(b5.1 w).1
 have r:=(b5.1 h).1;have l:=pc (size:=size) r b;have C:c.length<=i*size+j:=by rw[p,<-o];have:=dU size (O:rows.length<=i);omega
 have y:i*size+j-c.length=(i-rows.length)*size+j:=by rw[p,<-o,Nat.sub_mul];have:=dU size (O:rows.length<=i);omega
 grind
section ops
variable {K:Ctx}{s:S}{d:Option Tmp}{ty:TypeId}{pos:String}{af:Array Edge}{g:Option (Nat×Bool)}
variable {t:TypeId}{u:TypeDesc}{z:Value}{gen size bytes:Nat}
def Rows(size:Nat)(rows:List (List T)):Prop:= ∀a,a∈rows->a.length=size
theorem Rows.nil(size:Nat):Rows size []:=λ_ h=>by simp at h
theorem Rows.map{a:Type}{size:Nat}{f:a->List T}(l:List a)(h: ∀x,(f x).length=size):Rows size (l.map f):=λb c=>by obtain⟨x,_,rfl⟩:=eK.1 c;exact h x
theorem N5(Q:Nat->V)(k:Nat)(e:TypeId)(F:s.u k=ak)(n: ∀(i q:Map) (w:World) (X R:Nat->Prop) (j:Nat) (u:Value),q k=aa (aj,1)->(∀v u,bt i w X v u->bt q w R v u)->bt i w X (s.t j) u->bt q w R (Q j) u):
  s.le K {t:=Q,H:=aZ s.H k (aa (.arr e 1 size [])),u:=aZ s.u k ab}:=by
 intro i a w h;have r:i k=aj:=h.dT _ F;have o: ∀id x,i id=aa x->i.put k (aa (aj,1)) id=aa x:=λid x A=>by
  rw[eS _ _ _ _ (by intro e;subst e;rw[r] at A;cases A)];exact A
 have B:=dX.of o;have l: ∀id b,At (i.put k (aa (aj,1))) id b->id≠k/\At i id b:=λid b a1=>by
  by_cases n:id=k
  ·subst n;rcases a1 with ⟨g,a1⟩|a1
   ·rw[iG] at a1;cases a1
   exact bs a1 (h.ev _ _ F)
  refine⟨n,?_⟩;rcases a1 with ⟨g,a1⟩|a1
  ·rw[eS _ _ _ _ n] at a1;exact .inl ⟨g,a1⟩
  exact .inr a1
 have p: ∀b,own K (i.put k (aa (aj,1))) (aZ s.H k (aa (.arr e 1 size []))) b->own K i s.H b:=by
  rintro b (A|⟨id,y,C⟩)
  ·exact .inl A
  obtain⟨G,W⟩:=l id b C;rw[cg _ _ _ _ G] at y;exact .inr ⟨id,y,W⟩
 have L: ∀v u,bt i w (own K i s.H) v u->bt (i.put k (aa (aj,1))) w (own K (i.put k (aa (aj,1))) (aZ s.H k (aa (.arr e 1 size [])))) v u:=
  λv u f=>f.mono (Ext.refl _ _) (λb _=>p b) B (Shaped.refl _ _)
 refine⟨i.put k (aa (aj,1)),{h with base:= ?_,low:= ?_,dT:= ?_,ev:= ?_,inj:= ?_,fresh:= ?_,heap:= ?_,dB:= ?_}⟩
 ·refine h.base.keep λid hid=>?_
  have:=h.low id hid;rw[eS _ _ _ _ (by intro e;subst e;rw[F] at this;cases this)]
 ·intro id hid;show aZ s.u k ab id=ab;by_cases e:id=k
  ·subst e;exact cd _ _ _
  rw[cg _ _ _ _ e];exact h.low id hid
 ·intro id hid;have c:aZ s.u k ab id=ak:=hid;by_cases e:id=k
  ·subst e;rw[cd] at c;cases c
  rw[cg _ _ _ _ e] at c;rw[eS _ _ _ _ e];exact h.dT id c
 ·intro id b hid;have c:aZ s.u k ab id=ak:=hid;by_cases e:id=k
  ·subst e;rw[cd] at c;cases c
  rw[cg _ _ _ _ e] at c;exact h.ev id b c
 ·intro id D b y C;exact h.inj id D b (l id b y).2 (l D b C).2
 ·intro id b a1;exact h.fresh id b (l id b a1).2
 ·intro id e' m;have m:aZ s.H k (aa (.arr e 1 size [])) id=aa e':=m;show aZ s.u k ab id=ab/\cY _ _ (own K _ (aZ s.H k (aa (.arr e 1 size [])))) id e';by_cases n:id=k
  ·subst n;rw[cd] at m;cases m;exact⟨cd _ _ _,da _,Or.inl ⟨cd _ _ _,rfl⟩⟩
  rw[cg _ _ _ _ n] at m;obtain⟨y,C⟩:=h.heap id e' m;exact⟨by rw[cg _ _ _ _ n];exact y,C.mono (Ext.refl _ _) (λb _=>p b) B (o id) (Shaped.refl _ _) λ_ _=>rfl⟩
 intro j;exact n i _ w _ _ j _ (cd _ _ _) L (h.dB j)
theorem PR{U:Map}{X W:Nat->Prop}{u:Value}(a:G k=aa (aj,1))(h:bt U w X (.t .fp) u):bt G w W (.bo k 1 n 0 0) u:=by
 cases h with
 |t _ _ b=>cases b;exact .hb k 1 n (da _) a
theorem aeg(i k:Nat)(e:TypeId)(c:s.u k=ak)(l:s.t i= .t .fp):s.le K {t:=aZ s.t i (.bo k 1 size 0 0),H:=aZ s.H k (aa (.arr e 1 size [])),u:=aZ s.u k ab}:=
 N5 _ k e c (λo m w X p j u n a h=>by
  by_cases b:j=i
  ·subst b;rw[cd];rw[l] at h;exact PR n h
  rw[cg _ _ _ _ b];exact a _ _ h)
theorem acm(i j k:Nat)(e:TypeId){Y:List V}(q:s.u k=ak)(r:s.t i= .agg Y)(n:Y[j]? =aa (.t .fp)):s.le K {t:=aZ s.t i (.agg (Y.set j (.bo k 1 size 0 0))),H:=aZ s.H k (aa (.arr e 1 size [])),u:=aZ s.u k ab}:=
 N5 _ k e q (λD x w X F y u A a h=>by
  by_cases b:y=i
  ·subst b;rw[cd];rw[r] at h;cases h with|agg _ B C o=>
   refine .agg _ B (by simpa using C) λi c u m p=>?_;by_cases l:i=j
   ·subst l;rw[iQ (b5.1 n).1] at m;cases m;exact PR A (o i _ u n p)
   rw[mw (Ne.symm l)] at m;exact a _ _ (o i c u m p)
  rw[cg _ _ _ _ b];exact a _ _ h)
theorem aau(x y:Operand)(C i c:Nat)(e:TypeId)(o:List (List T))(l:List T)(m:List T)(hx:s.get x= .cR C gen size i c){v:V}(hle:dO (s.get y) v)(hy:v.cs=m.map .t)(mT:v.val=ab)(X:s.H C=aa (.arr e gen size o)){A:Nat}(fB:cr K.P t u z A bytes)
  (B:o[i]? =aa l) (hs:m.length=A) (cC:c+A<=size):
  ef K ⟨aj,.store t x y,ty,pos,af,g⟩ s {s with H:=aZ s.H C (aa (.arr e gen size (o.set i (l.take c++m++l.drop (c+m.length)))))}:=by
 intro β a w next Q R hk
 have f:=R.get x;rw[hx] at f;obtain⟨q,hq⟩:=kx (R.heap C _ X).2;obtain⟨b,k1,za⟩:=qg f hq;subst k1;have a1:=hq;have aJ:=(b5.1 B).1;rcases(R.heap C _ X).2.2 with ⟨_,E⟩|⟨hr,p,h1,E,h3,h4,h5⟩
 ·rw[E] at aJ;simp at aJ
 rw[a1] at h1;cases h1;obtain⟨c1,c2⟩:=(hle _ _ _ _ (R.get y)).cells mT;rw[hy] at c1 c2;have I:(a.eval y).cells.size=A:=by rw[c1];simpa using hs
 have hrl:l.length=size:=h4 l (bT B);have ak9:i*size+size<=p.size:=by
  have:(i+1)*size<=o.length*size:=dU _ aJ;rw[ed] at this;omega
 have M: ∀e∈(a.eval y).cells.toList,e.oneCell'=ab:=by
  intro e he;obtain⟨j,hj⟩:=j1.1 he;have N:(a.eval y).cells[j]? =aa e:=by simpa using hj
  have U:j<m.length:=by have:=(iR.1 N).1;rw[c1] at this;simpa using this
  exact(c2 j (.t m[j]) e (by simp[U]) N).jF rfl
 unfold Oper.wp;have Y:=FD fB w b (i*size+c) p e (a.eval y) E I O M;have G:(execOp a.eval ⟨aj,.store t x y,ty,pos,af,g⟩).run K.P w= .ok .skip (w.setRow b (p.toList.take (i*size+c)++(a.eval y).cells.toList++p.toList.drop (i*size+c+(a.eval y).cells.toList.length)).toArray):=by
  simp only[execOp,za,Instr.storeAt,Instr.sureAddr,fo,j6,fc,Y]
 rw[G];have o0:(a.eval y).cells.toList.length=m.length:=by simp[c1]
 have D:(p.toList.take (i*size+c)++(a.eval y).cells.toList++p.toList.drop (i*size+c+(a.eval y).cells.toList.length)).length=p.size:=by
  simp[I];omega
 refine hk β _ _ (Rel.setRow R C b (.inl ⟨_,a1⟩) p e E _ (by simpa using D) (.arr e gen size (o.set i (l.take c++m++l.drop (c+m.length)))) (by rw[X];simp) ?_);have hb':own K β s.H b:= .inr ⟨C,by rw[X];simp,.inl ⟨_,a1⟩⟩;have L: ∀x u,cV w (own K β s.H) x u->cV (w.setRow b (p.toList.take (i*size+c)++(a.eval y).cells.toList++p.toList.drop (i*size+c+(a.eval y).cells.toList.length)).toArray) (own K β s.H) x u:=by
  intro v u bZ;exact bZ.mono ⟨rfl,rfl,rfl,a7,λk _ hx=>setRow_other _ _ _ _ λe=>hx (e▸hb')⟩ λ_ _ h=>h
 have SG:(l.take c++m++l.drop (c+m.length)).length=size:=b6
 refine⟨(R.heap C _ X).2.1,Or.inr ⟨b,_,a1,setRow_heap _ _ _ _ _ _ E,?_,?_,?_⟩⟩
 ·simp only[List.size_toArray,D,List.length_set];exact h3
 ·intro r aiY;rcases xd aiY with h|h
  ·exact h4 r h
  rw[h];exact SG
 intro n j F j2 W aL a2 a3;apply L;have a3:(p.toList.take (i*size+c)++(a.eval y).cells.toList++p.toList.drop (i*size+c+(a.eval y).cells.toList.length))[n*size+j]? =aa W:=by simpa using a3
 simp only[List.getElem?_append,hn,kI,List.getElem?_take,List.getElem?_drop,Array.length_toList] at a3;rw[show min (i*size+c) p.size=i*size+c by omega,show(a.eval y).cells.size=m.length by simpa using o0] at a3;by_cases y0:n=i
 ·subst y0;rw[iQ aJ] at aL;cases aL;have hjs:j<size:=by rw[<-SG];exact(b5.1 a2).1
  simp only[List.getElem?_append,hn,kI,List.getElem?_take,List.getElem?_drop,hrl] at a2;rw[show min c size=c by omega] at a2;by_cases dd:j<c
  ·rw[bb O,bb dd,bb dd] at a2;rw[bb O,bb O,bb O] at a3;exact h5 n j l j2 W B a2 (by simpa using a3)
  by_cases cB:j<c+m.length
  ·rw[bb O,a8 dd] at a2;rw[bb O,a8 O] at a3;rw[show n*size+j-(n*size+c)=j-c by omega] at a3;have h9:=c2 (j-c) (.t j2) W (by rw[eQ,a2];rfl) (by simpa using a3);cases h9 with|t _ _ h=>exact h
  rw[a8 O] at a2;rw[a8 O] at a3;rw[show c+m.length+(j-(c+m.length))=j by omega] at a2;rw[show n*size+c+m.length+(n*size+j-(n*size+c+m.length))=n*size+j by omega] at a3;exact h5 n j l j2 W B a2 (by simpa using a3)
 rw[mw (Ne.symm y0)] at aL;have hjs:j<size:=by rw[<-h4 F (bT aL)];exact(b5.1 a2).1
 have hold:p[n*size+j]? =aa W:=by
  rcases Nat.lt_or_ge n i with U|k3
  ·have:n*size+size<=i*size:=by have:=dU size (O:n+1<=i);rw[ed] at this;omega
   rw[bb O,bb O,bb O] at a3;simpa using a3
  have:i*size+size<=n*size:=by have:=dU size (O:i+1<=n);rw[ed] at this;omega
  rw[a8 O] at a3;rw[show i*size+c+m.length+(n*size+j-(i*size+c+m.length))=n*size+j by omega] at a3;simpa using a3
 exact h5 n j F j2 W aL a2 hold
end ops
end Go.Lift
