/- Tools. -/
import Derived.Tactics
import Derived.Deep.Quiet
import Derived.Laws.World
import Derived.Laws.Sem
import Derived.WalkKit
namespace Go.Lift
open Go
abbrev bT:=@decide_eq_false
abbrev bW:=@decide_eq_true
abbrev aX.{u}:=@if_pos.{u}
abbrev aY.{u}:=@if_neg.{u}
abbrev bz.{u}:=@absurd.{u}
abbrev hB:=@of_decide_eq_true
open Option renaming some -> aa, none -> aj
open Bool renaming true -> ab, false -> ak, and_eq_true -> b5
open Decidable renaming decide -> ah
open List renaming length_append -> rz, replicate -> dq, range -> fp
open Go.Result renaming andThen_ok -> fb
open Go.Sem renaming run_bind -> ff
open Nat renaming beq -> b4, blt -> df, ble -> cY
section
variable {p:Prop}{X Z:Nat->Prop}{a b c w w':World}{v u:Value}{m:Option Nat}{i j k n sz:Nat}
theorem O(h:p:=by omega):p:=h
theorem J(h:p:=by dsimp only;omega):p:=h
theorem Y(h:p:=by kernel_rfl):p:=h
theorem aW(h:p:=by simp):p:=h
theorem bZ(h:p:=by simp;omega):p:=h
abbrev bo.{u}:=@List.getElem?_eq_getElem.{u}
abbrev bX.{u}:=@List.getElem?_eq_some_iff.{u}
abbrev bJ.{u}:=@List.mem_of_getElem?.{u}
abbrev c4:=@Nat.eq_of_beq_eq_true
abbrev eB.{u}:=@List.getD_eq_getElem?_getD.{u}
abbrev c':=@Int.toNat_natCast
abbrev dp.{u}:=@List.length_append.{u}
abbrev ec.{u}:=@List.mem_cons_of_mem.{u}
abbrev dr.{u}:=@List.length_take.{u}
abbrev eG:=@Nat.le_of_ble_eq_true
abbrev dF.{u}:=@List.take_length.{u}
abbrev dz.{u,v}:=@List.length_map.{u,v}
abbrev eL:=@Nat.mul_le_mul_right
abbrev en.{u}:=@List.mem_cons_self.{u}
abbrev ek.{u,v}:=@List.getElem?_map.{u,v}
abbrev ej.{u}:=@List.take_add_one.{u}
abbrev cV:=@Nat.le_refl
abbrev hT.{u}:=@List.getElem?_append_right.{u}
abbrev eS.{u}:=@List.mem_append.{u}
abbrev ef.{u}:=@List.mem_cons.{u}
abbrev fr.{u}:=@List.append_assoc.{u}
abbrev iV.{u}:=@List.getElem?_append_left.{u}
abbrev eZ.{u,v}:=@List.map_append.{u,v}
abbrev e7.{u}:=@List.length_set.{u}
abbrev jo.{u}:=@Array.getElem?_eq_getElem.{u}
abbrev hU.{u}:=@List.getElem?_set_self.{u}
abbrev eg:=@Nat.zero_add
abbrev eo.{u,v}:=@List.mem_map.{u,v}
abbrev hv.{u}:=@List.mem_of_mem_take.{u}
abbrev kv.{u}:=@Array.getElem?_eq_some_iff.{u}
abbrev gp.{u}:=@List.getElem_mem.{u}
abbrev gq.{u}:=@List.all_eq_true.{u}
abbrev hS.{u}:=@List.getElem?_take.{u}
abbrev k6.{u}:=@List.drop_eq_getElem_cons.{u}
abbrev jl.{u}:=@List.mem_of_mem_drop.{u}
abbrev jm.{u}:=@List.getElem?_set_ne.{u}
abbrev j2.{u}:=@List.take_of_length_le.{u}
abbrev il.{u}:=@List.getElem?_drop.{u}
abbrev kx.{u}:=@List.mem_iff_getElem?.{u}
abbrev nH.{u}:=@List.eq_nil_of_length_eq_zero.{u}
abbrev hz:=@Bool.eq_iff_iff
abbrev im.{u}:=@List.length_drop.{u}
abbrev fc:=@Nat.add_mul
abbrev k7.{u}:=@List.mem_append_right.{u}
abbrev gL:=@Bool.true_and
abbrev l6.{u}:=@List.drop_eq_nil_of_le.{u}
abbrev fM:=@Int.le_refl
abbrev ls.{u}:=@List.getElem?_of_mem.{u}
abbrev jE.{u}:=@List.any_eq_true.{u}
abbrev jF.{u,v}:=@List.mem_flatMap.{u,v}
abbrev jn.{u}:=@List.append_nil.{u}
abbrev l7.{u}:=@List.mem_append_left.{u}
abbrev l8.{u,v}:=@List.flatMap_append.{u,v}
abbrev hA:=@Nat.le_trans
abbrev nJ.{u}:=@List.take_append_drop.{u}
abbrev nK.{u}:=@List.length_singleton.{u}
abbrev l9:=@Nat.lt_of_lt_of_le
abbrev ma.{u}:=@List.filter_append.{u}
abbrev rk.{u}:=@Array.getD_eq_getD_getElem?.{u}
abbrev iq:=@Nat.zero_mul
abbrev mb.{u}:=@List.all_eq_false.{u}
abbrev mR.{u,v}:=@List.flatMap_cons.{u,v}
abbrev nL.{u}:=@List.mem_singleton.{u}
abbrev nM.{u}:=@List.pairwise_cons.{u}
abbrev p7.{u}:=@Array.getElem?_toList.{u}
abbrev p8.{u}:=@List.set_append_right.{u}
abbrev mS:=@Bool.and_eq_true
abbrev td.{u}:=@List.mem_or_eq_of_mem_set.{u}
abbrev j3.{u,v,w}:=@List.map_map.{u,v,w}
abbrev vD.{u}:=@List.mem_zipIdx_iff_getElem?.{u}
abbrev p9.{u}:=@Array.length_toList.{u}
abbrev mT:=@List.range_succ
abbrev p'.{u,v}:=@List.map_congr_left.{u,v}
abbrev mc:=@Bool.and_assoc
abbrev nN.{u}:=@List.length_cons.{u}
abbrev nO.{u,v,w}:=@List.map_flatMap.{u,v,w}
abbrev te.{u}:=@List.getElem?_replicate.{u}
abbrev mU:=@Bool.and_false
abbrev oO:=@Nat.lt_succ_self
abbrev oP.{u}:=@List.drop_length.{u}
abbrev lu:=@Nat.sub_self
abbrev tb.{u}:=@List.getElem?_eq_none.{u}
abbrev nI:=@Int.mul_nonneg
abbrev vz.{u}:=@List.length_eq_one_iff.{u}
abbrev oQ:=@Nat.mul_le_mul
abbrev p4:=@Nat.not_lt_zero
abbrev tc.{u}:=@List.mem_replicate.{u}
abbrev C4.{u}:=@List.take_append_of_le_length.{u}
abbrev rh.{u,v}:=@List.flatMap_def.{u,v}
abbrev p5:=@List.mem_range
abbrev p6:=@Int.mul_le_mul
abbrev yD:=@Nat.div_lt_iff_lt_mul
abbrev yE.{u}:=@List.length_replicate.{u}
abbrev IP.{u}:=@List.findIdx?_eq_some_iff_getElem.{u}
abbrev C5.{u}:=@List.exists_mem_of_ne_nil.{u}
abbrev ri.{u}:=@List.drop_zero.{u}
abbrev IQ.{u}:=@Array.eq_empty_of_size_eq_zero.{u}
abbrev rj:=@Nat.add_assoc
abbrev yF:=@Int.toNat_of_nonneg
abbrev yG.{u}:=@List.filter_eq_self.{u}
abbrev vA.{u,v}:=@Array.toList_map.{u,v}
abbrev vB:=@Nat.lt_of_not_le
abbrev vC.{u,v,w}:=@List.flatMap_map.{u,v,w}
abbrev yH.{u}:=@List.set_cons_zero.{u}
abbrev rl:=@Nat.add_zero
abbrev C6.{u}:=@List.length_filter_le.{u}
abbrev vE.{u}:=@List.nil_append.{u}
abbrev C7.{u,v}:=@List.pairwise_flatMap.{u,v}
abbrev C8.{u,v}:=@List.mem_map_of_mem.{u,v}
abbrev C9.{u,v,w}:=@List.length_zipWith.{u,v,w}
abbrev yI:=@Nat.min_eq_left
abbrev vF.{u,v}:=@List.map_cons.{u,v}
abbrev yJ.{u}:=@List.any_append.{u}
inductive T where
  |bool (b:Bool)
  |int (k:IntKind) (n:Int)
  |str (s:List UInt8)
  |bD (rows:List (List T))
  |fF
  |hP
  |gJ
  |nw
  |err
  deriving Inhabited
inductive V where
  |t (x:T)
  |agg (cs:List V)
  |bQ (vs:List V)
  |ref (id off:Nat)
  |aQ (cells:List T)
  |bn (id gen size off len:Nat)
  |cK (id gen size i off:Nat)
  |fn (f:FuncId) (ah9:List V)
  |c9
  deriving Inhabited
structure dt where
  ty:TypeId
  size:Nat
  bk:List (Nat×Nat)
def tQ:List (Nat×Nat)->Nat->Option Nat
  | [],_=>aj
  |p::l,j=>bif b4 p.1 j then aa p.2 else tQ l j
def dt.eA(d:dt)(j:Nat):Option Nat:=tQ d.bk j
def ahh:dt:=⟨0,0,[]⟩
def aR(Γ:List dt)(m:Nat):dt:=Γ.getD m ahh
inductive E where
  |cells (cs:List V)
  |arr (ty:TypeId) (gen size:Nat) (rows:List (List T))
  |bd (Γ:List dt) (m gen:Nat) (rows:List (List T)) (open_:List (Nat×Nat×V))
structure Map where
  f:Nat->Option (Option Nat×Nat)
  n:Nat->Nat->Prop
instance:CoeFun Map (λ_=>Nat->Option (Option Nat×Nat)):=⟨Map.f⟩
def At(a:Map)(c b:Nat):Prop:=(∃g,a c=aa (aa b,g))\/a.n c b
def dS(e a:Map):Prop:= ∀id q g,e id=aa (q,g)->a id=aa (q,g)\/(1<=g/\ ∃h c,a id=aa (h,c)/\g<c)
theorem dS.refl(β:Map):dS β β:=λ_ _ _ h=> .inl h
variable {β β':Map}{e:E}
theorem dS.of{X:Map}(h: ∀id x,β id=aa x->X id=aa x):dS β X:=λ_ _ _ a=> .inl (h _ _ a)
structure Ext (X:Nat->Prop) (w w':World):Prop where
  os:w'.os=w.os
  tape:w'.tape=w.tape
  output:w'.output=w.output
  size:w.heap.size<=w'.heap.size
  keep: ∀b,b<w.heap.size-> ¬X b->w'.heap[b]? =w.heap[b]?
theorem Ext.refl(X:Nat->Prop)(w:World):Ext X w w:=⟨rfl,rfl,rfl,cV _,λ_ _ _=>rfl⟩
theorem Ext.trans(h:Ext X a b)(k:Ext X b c):Ext X a c:=
  ⟨k.os.trans h.os,k.tape.trans h.tape,k.output.trans h.output,hA h.size k.size,
   λi e l=>(k.keep i (l9 e h.size) l).trans (h.keep i e l)⟩
theorem Ext.trans'(h:Ext X a b)(k:Ext (λi=> ¬(i<a.heap.size/\ ¬X i)) b c):Ext X a c:=
  ⟨k.os.trans h.os,k.tape.trans h.tape,k.output.trans h.output,hA h.size k.size,
   λi e l=>(k.keep i (l9 e h.size) λm=>m ⟨e,l⟩).trans (h.keep i e l)⟩
theorem Ext.weaken(h:Ext X a b)(e: ∀i,i<a.heap.size->X i->Z i):Ext Z a b:=
  ⟨h.os,h.tape,h.output,h.size,λi c k=>h.keep i c λl=>k (e i c l)⟩
theorem Ext.drew(X:Nat->Prop)(w:World):Ext X w w.drew:=⟨rfl,rfl,rfl,cV _,λ_ _ _=>rfl⟩
theorem heap_alloc(w:World)(o:Obj)(k:Nat)(h:k<w.heap.size):(w.alloc o).heap[k]? =w.heap[k]? :=by
  show(w.heap.push o)[k]? =_
  grind
theorem lf(w:World)(o:Obj):(w.alloc o).heap[w.heap.size]? =aa o:=by show(w.heap.push o)[w.heap.size]? =_;simp
theorem Ext.alloc(X:Nat->Prop)(w:World)(o:Obj):Ext X w (w.alloc o):=
  ⟨rfl,rfl,rfl,aW,λk a _=>heap_alloc _ _ _ a⟩
theorem xY{b:Nat}(h:a.heap[b]? =w.heap[b]?):a.shape? b=w.shape? b:=by unfold World.shape?;rw[h]
def Shaped(_β:Map)(w a:World):Prop:= ∀b,b<w.heap.size->a.shape? b=w.shape? b
theorem Shaped.refl(β:Map)(w:World):Shaped β w w:=λ_ _=>rfl
theorem i8{X:Map}(e:Ext (λ_=>False) w w'):Shaped X w w':=λb a=>xY (e.keep b a λh=>h)
theorem Vf(w:World)(a:Addr)(u:Value)(k:Nat)(h:k≠a.block):(w.setCell a u).heap[k]? =w.heap[k]? :=by
  simp only[World.setCell,Array.getElem?_modify]
  grind
theorem Ext.setCell(w:World)(a:Addr)(u:Value)(h:X a.block):Ext X w (w.setCell a u):=
  ⟨rfl,rfl,rfl,aW,λk _ c=>Vf _ _ _ _ λe=>c (e▸h)⟩
theorem CI{a:Addr}(h:b.heap[a.block]? =w.heap[a.block]?):b.cell? a=w.cell? a:=by unfold World.cell?;rw[h]
inductive dh (w:World) (X:Nat->Prop):T->Value->Prop where
  |bool (b:Bool):dh w X (.bool b) (.bool b)
  |int (k:IntKind) (n:Int):dh w X (.int k n) (.int k n)
  |str (l:List UInt8):dh w X (.str l) (.string ⟨l.toArray⟩)
  |gn (a:Option Addr) (cap:Nat):dh w X (.bD []) (.slice a 0 cap)
  |bD (rows:List (List T)) (b off size cap:Nat) (f:Nat->Nat->Value) (a7:b<w.heap.size) (iJ: ¬X b) (Hw:rows.length<=cap)
      (lj: ∀row,row∈rows->row.length=size)
      (bN: ∀i j,i<rows.length->j<size->w.cell? ⟨b,off+i*size+j,aj⟩=aa (f i j))
      (b3: ∀(i j:Nat) (row:List T) (x:T),rows[i]? =aa row->row[j]? =aa x->dh w X x (f i j)):
      dh w X (.bD rows) (.slice (aa ⟨b,off,aj⟩) rows.length cap)
  |fF:dh w X .fF (.slice aj 0 0)
  |hP:dh w X .hP (.pointer aj)
  |gJ:dh w X .gJ .nilIface
  |nw:dh w X .nw .nilFunc
  |err (t:TypeId) (v:Value):dh w X .err (.iface t v)
theorem dh.mono{x:T}(h:dh w X x v)(e:Ext X w w')(A: ∀b,b<w.heap.size->Z b->X b):dh w' Z x v:=by
  induction h with
  |bool b=>exact .bool b
  |int k n=>exact .int k n
  |str l=>exact .str l
  |gn a c=>exact .gn a c
  |bD m b r o c f s p q y B _ C=>
    exact .bD m b r o c f (l9 s e.size) (λh=>p (A b s h)) q y
      (λi j F G=>by rw[CI (w:=w) (e.keep b s p)];exact B i j F G) (λi j z x K L=>C i j z x K L)
  |fF=>exact .fF
  |hP=>exact .hP
  |gJ=>exact .gJ
  |nw=>exact .nw
  |err t v=>exact .err t v
inductive bp (β:Map) (w:World) (X:Nat->Prop):V->Value->Prop where
  |t (x:T) (v:Value):dh w X x v->bp β w X (.t x) v
  |agg (cs:List V) (us:Array Value) (cC:us.size=cs.length) (h: ∀(i:Nat) c u,cs[i]? =aa c->us[i]? =aa u->bp β w X c u):bp β w X (.agg cs) (.agg us)
  |bQ (cs:List V) (us:Array Value) (cC:us.size=cs.length) (h: ∀(i:Nat) c u,cs[i]? =aa c->us[i]? =aa u->bp β w X c u):bp β w X (.bQ cs) (.tuple us)
  |ref (id off b:Nat) (a7:β id=aa (aa b,0)):bp β w X (.ref id off) (.pointer (aa ⟨b,off,aj⟩))
  |aQ (cells:List T) (b off:Nat) (f:Nat->Value) (a7:b<w.heap.size) (iJ: ¬X b)
      (bN: ∀j,j<cells.length->w.cell? ⟨b,off+j,aj⟩=aa (f j))
      (b3: ∀(j:Nat) (x:T),cells[j]? =aa x->dh w X x (f j)):bp β w X (.aQ cells) (.pointer (aa ⟨b,off,aj⟩))
  |bn (id gen size off len cap b n:Nat) (ty:TypeId) (bG:1<=gen) (a7:β id=aa (aa b,gen)) (hw:b<w.heap.size) (hs:w.shape? b=aa (ty,n)) (cG:(off+cap)*size=n) (cC:len<=cap) (hm:cap<=maxLen):
      bp β w X (.bn id gen size off len) (.slice (aa ⟨b,off*size,aj⟩) len cap)
  |iO (id gen size:Nat) (bG:1<=gen) (a7:β id=aa (aj,gen)):bp β w X (.bn id gen size 0 0) (.slice aj 0 0)
  |ln (id gen size off len:Nat) (v:Value) (q:Option Nat) (g:Nat) (ew:v.oneCell'=ab) (a7:β id=aa (q,g)) (bG:gen<g):bp β w X (.bn id gen size off len) v
  |cK (id gen size i off b:Nat) (bG:1<=gen) (a7:β id=aa (aa b,gen)):bp β w X (.cK id gen size i off) (.pointer (aa ⟨b,i*size+off,aj⟩))
  |lM (id gen size i off:Nat) (v:Value) (q:Option Nat) (g:Nat) (ew:v.oneCell'=ab) (a7:β id=aa (q,g)) (bG:gen<g):bp β w X (.cK id gen size i off) v
  |fn (f:FuncId) (cs:List V) (us:Array Value) (cC:us.size=cs.length) (h: ∀(i:Nat) c u,cs[i]? =aa c->us[i]? =aa u->bp β w X c u):
      bp β w X (.fn f cs) (.func (.func f) #[] us)
  |c9 (v:Value):bp β w X .c9 v
theorem bp.mono{x:V}(h:bp β w X x v)(e:Ext X w w')(F: ∀b,b<w.heap.size->Z b->X b)
    (m:dS β β') (G:Shaped β w w'):bp β' w' Z x v:=by
  induction h with
  |t x v h=>exact .t x v (h.mono e F)
  |agg cs z y _ A=>exact .agg cs z y A
  |bQ cs z y _ A=>exact .bQ cs z y A
  |ref id c b k=>
    rcases m _ _ _ k with h|⟨h,_⟩
    · exact .ref id c b h
    · omega
  |aQ cells b c f k B Q R=>
    exact .aQ cells b c f (l9 k e.size) (λh=>B (F b k h)) (λj W=>by rw[CI (w:=w) (e.keep b k B)];exact Q j W)
      (λj x h=>(R j x h).mono e F)
  |bn id gen a c o K b n ty p k L u D y I=>
    rcases m _ _ _ k with h|⟨_,r,s,h,l⟩
    · exact .bn id gen a c o K b n ty p h (l9 L e.size) (by rw[G b L];exact u) D y I
    · exact .ln id gen a c o _ r s rfl h l
  |iO id gen a p k=>
    rcases m _ _ _ k with h|⟨_,r,s,h,l⟩
    · exact .iO id gen a p h
    · exact .ln id gen a 0 0 _ r s rfl h l
  |ln id gen a c o v q g C k p=>
    rcases m _ _ _ k with h|⟨_,r,s,h,l⟩
    · exact .ln id gen a c o v q g C h p
    · exact .ln id gen a c o v r s C h O
  |cK id gen a i c b p k=>
    rcases m _ _ _ k with h|⟨_,r,s,h,l⟩
    · exact .cK id gen a i c b p h
    · exact .lM id gen a i c _ r s rfl h l
  |lM id gen a i c v q g C k p=>
    rcases m _ _ _ k with h|⟨_,r,s,h,l⟩
    · exact .lM id gen a i c v q g C h p
    · exact .lM id gen a i c v r s C h O
  |fn f cs z y _ A=>exact .fn f cs z y A
  |c9 v=>exact .c9 v
inductive gP (Γ:List dt) (w:World) (X:Nat->Prop):Option Nat->T->Value->(Nat->Prop)->Prop where
  |kj (x:T) (v:Value) (N:Nat->Prop) (h:dh w X x v) (fC: ∀c,¬N c):gP Γ w X aj x v N
  |nil (m:Nat) (N:Nat->Prop) (fC: ∀c,¬N c):gP Γ w X (aa m) (.bD []) (.slice aj 0 0) N
  |own (m:Nat) (rows:List (List T)) (b cap:Nat) (us:Array Value) (B:Nat->Nat->Nat->Prop) (N:Nat->Prop)
      (hw:w.heap[b]? =aa (.cells us (aR Γ m).ty (0,0))) (hs:us.size=cap*(aR Γ m).size) (hm:cap<=maxLen) (cC:rows.length<=cap)
      (lj: ∀row,row∈rows->row.length=(aR Γ m).size)
      (b3: ∀(i j:Nat) (row:List T) (x:T) (u:Value),rows[i]? =aa row->row[j]? =aa x->us[i*(aR Γ m).size+j]? =aa u->gP Γ w X ((aR Γ m).eA j) x u (B i j))
      (dV: ∀i j c,B i j c->i<rows.length/\j<(aR Γ m).size/\c≠b)
      (cM: ∀i j je ei c,B i j c->B je ei c->i=je/\j=ei)
      (fC: ∀c,N c↔c=b\/ ∃i j,B i j c):
      gP Γ w X (aa m) (.bD rows) (.slice (aa ⟨b,0,aj⟩) rows.length cap) N
theorem gP.mono{D:List dt}{x:T}{N:Nat->Prop}(h:gP D w X m x v N)(e:Ext X w w')(r: ∀b,b<w.heap.size->Z b->X b)
    (q: ∀b,N b->w'.heap[b]? =w.heap[b]?):gP D w' Z m x v N:=by
  induction h with
  |kj x v N h a=>exact .kj x v N (h.mono e r) a
  |nil m N a=>exact .nil m N a
  |own m k b n s B N y l z A o W C F a G=>
    refine .own m k b n s B N ?_ l z A o (λi j p x u K L Q=>G i j p x u K L Q λc R=>q c ((a c).2 (.inr ⟨i,j,R⟩))) C F a;rw[q b ((a b).2 (.inl rfl))];exact y
theorem gP.iff{D:List dt}{x:T}{N:Nat->Prop}(h:gP D w X m x v N)(a: ∀c,Z c↔N c):gP D w X m x v Z:=by
  cases h with
  |kj _ _ _ h e=>exact .kj _ _ _ h (λc k=>e c ((a c).1 k))
  |nil _ _ e=>exact .nil _ _ (λc k=>e c ((a c).1 k))
  |own m i b l o B _ p q r s n y z A e=>exact .own m i b l o B _ p q r s n y z A λc=>(a c).trans (e c)
theorem gP.lt{D:List dt}{x:T}{N:Nat->Prop}(h:gP D w X m x v N): ∀c,N c->c<w.heap.size:=by
  induction h with
  |kj _ _ _ _ a=>exact λc e=>bz e (a c)
  |nil _ _ a=>exact λc e=>bz e (a c)
  |own m k b l q B N r s C F n G y K a z=>
    intro c e;rcases(a c).1 e with rfl|⟨i,j,o⟩
    · exact(kv.1 r).1
    · obtain⟨p,L,_⟩:=y i j c o;have Q:=n _ (gp p);have A:i*(aR D m).size+j<q.size:=by
        rw[s]
        have:(i+1)*(aR D m).size<=l*(aR D m).size:=eL _ O;rw[fc] at this;omega
      exact z i j _ (k[i][j]' O) _ (bo p) (bo O) (jo A) c o
theorem gP.yl{D:List dt}{x:T}{N:Nat->Prop}(h:gP D w X m x v N)(A: ∀b,Z b->X b)(l: ∀b,N b-> ¬Z b):dh w Z x v:=by
  induction h with
  |kj x v N h q=>exact h.mono (Ext.refl _ _) (λb _=>A b)
  |nil m N q=>exact .gn _ _
  |own m n b e k B N s y Q C o R W f q F=>
    refine .bD n b 0 (aR D m).size e (λi j=>k.getD (i*(aR D m).size+j) undef) (kv.1 s).1 (l b ((q b).2 (.inl rfl))) C o (λi j aP G=>?_) λi j p x r z=>?_
    · have a:i*(aR D m).size+j<k.size:=by
        rw[y]
        have:(i+1)*(aR D m).size<=e*(aR D m).size:=eL _ O;rw[fc] at this;omega
      simp[World.cell?,s,a]
    · have aP:=(bX.1 r).1;have G:j<(aR D m).size:=by rw[<-o p (bJ r)];exact(bX.1 z).1
      have a:i*(aR D m).size+j<k.size:=by
        rw[y]
        have:(i+1)*(aR D m).size<=e*(aR D m).size:=eL _ O;rw[fc] at this;omega
      have K:k.getD (i*(aR D m).size+j) undef=k[i*(aR D m).size+j]:=by simp[a]
      show dh w Z x (k.getD (i*(aR D m).size+j) undef);rw[K];exact F i j p x _ r z (jo a) λc L=>l c ((q c).2 (.inr ⟨i,j,L⟩))
def Cell(a:List dt)(m:Nat)(e:List (Nat×Nat×V))(β:Map)(w:World)(X:Nat->Prop)(i j:Nat)(x:T)(u:Value)(N:Nat->Prop):Prop:=
  (∀v,(i,j,v)∈e->bp β w X v u/\ ∀c,¬N c)/\((∀v,(i,j,v)∉e)->gP a w X ((aR a m).eA j) x u N)
theorem Cell.mono{D:List dt}{m:Nat}{I:List (Nat×Nat×V)}{x:T}{N:Nat->Prop}(h:Cell D m I β w X i j x u N)
    (e:Ext X w w') (l: ∀b,b<w.heap.size->Z b->X b) (a:dS β β') (c:Shaped β w w') (k: ∀b,N b->w'.heap[b]? =w.heap[b]?):Cell D m I β' w' Z i j x u N:=
  ⟨λv n=>⟨(h.1 v n).1.mono e l a c,(h.1 v n).2⟩,λo=>(h.2 o).mono e l k⟩
theorem Cell.none{D:List dt}{m:Nat}{x:T}{N:Nat->Prop}(h:Cell D m [] β w X i j x u N):gP D w X ((aR D m).eA j) x u N:=h.2 λ_ a=>List.not_mem_nil a
theorem Cell.of{D:List dt}{m:Nat}{x:T}{N:Nat->Prop}(h:gP D w X ((aR D m).eA j) x u N):Cell D m [] β w X i j x u N:=⟨λ_ a=>bz a List.not_mem_nil,λ_=>h⟩
def cN(β:Map)(w:World)(X:Nat->Prop)(l:Nat):E->Prop
  | .cells cs=> ∃(b:Nat) (h:Array Value) (ty:TypeId),β l=aa (aa b,0)/\w.heap[b]? =aa (.cells h ty (0,0))/\h.size=cs.length/\
      ∀(i:Nat) c u,cs[i]? =aa c->h[i]? =aa u->bp β w X c u
  | .arr ty gen k a=>1<=gen/\((β l=aa (aj,gen)/\a=[])\/ ∃(b:Nat) (h:Array Value),β l=aa (aa b,gen)/\w.heap[b]? =aa (.cells h ty (0,0))/\
      a.length*k<=h.size/\(∀e,e∈a->e.length=k)/\
      ∀(i j:Nat) (e:List T) (x:T) (u:Value),a[i]? =aa e->e[j]? =aa x->h[i*k+j]? =aa u->dh w X x u)
  | .bd o m gen a r=>1<=gen/\((β l=aa (aj,gen)/\a=[]/\(∀c,¬β.n l c))\/ ∃(b:Nat) (h:Array Value) (B:Nat->Nat->Nat->Prop),β l=aa (aa b,gen)/\
      w.heap[b]? =aa (.cells h (aR o m).ty (0,0))/\a.length*(aR o m).size<=h.size/\(∀e,e∈a->e.length=(aR o m).size)/\
      (∀(i j:Nat) (e:List T) (x:T) (u:Value),a[i]? =aa e->e[j]? =aa x->h[i*(aR o m).size+j]? =aa u->Cell o m r β w X i j x u (B i j))/\
      (∀i j c,B i j c->i<a.length/\j<(aR o m).size/\c≠b)/\(∀i j p q c,B i j c->B p q c->i=p/\j=q)/\ ∀c,β.n l c↔ ∃i j,B i j c)
theorem cN.mono{S:E}(h:cN β w X k S)(e:Ext X w w')(G: ∀b,b<w.heap.size->Z b->X b)
    (r:dS β β') (o: ∀x,β k=aa x->β' k=aa x) (s:Shaped β w w') (a: ∀b,At β k b->w'.heap[b]? =w.heap[b]?) (L: ∀b,β'.n k b↔β.n k b:=by exact λ_=>Iff.rfl):cN β' w' Z k S:=by
  cases S with
  |cells cs=>
    obtain⟨b,y,ty,l,p,z,A⟩:=h;exact⟨b,y,ty,o _ l,by rw[a b (.inl ⟨_,l⟩)];exact p,z,λi c u C W=>(A i c u C W).mono e G r s⟩
  |arr ty gen Q F=>
    refine⟨h.1,?_⟩;rcases h.2 with ⟨l,p⟩|⟨b,y,l,p,z,A,K⟩
    · exact .inl ⟨o _ l,p⟩
    · exact .inr ⟨b,y,o _ l,by rw[a b (.inl ⟨_,l⟩)];exact p,z,A,λi j q x u aS a2 a3=>(K i j q x u aS a2 a3).mono e G⟩
  |bd D m gen F I=>
    refine⟨h.1,?_⟩;rcases h.2 with ⟨l,p,f⟩|⟨b,y,B,l,p,z,A,K,t,v,R⟩
    · exact .inl ⟨o _ l,p,λc C=>f c ((L c).1 C)⟩
    · refine .inr ⟨b,y,B,o _ l,by rw[a b (.inl ⟨_,l⟩)];exact p,z,A,λi j q x u aS a2 a3=>(K i j q x u aS a2 a3).mono e G r s λc C=>a c (.inr ((R c).2 ⟨i,j,C⟩)),t,v,λc=>(L c).trans (R c)⟩
def Map.put(a:Map)(d:Nat)(x:Option (Option Nat×Nat)):Map:=⟨λi=>bif b4 i d then x else a i,a.n⟩
theorem lW(a:Map)(d:Nat)(x:Option (Option Nat×Nat)):a.put d x d=x:=by simp[Map.put]
theorem fz(a:Map)(d i:Nat)(x:Option (Option Nat×Nat))(h:i≠d):a.put d x i=a i:=by
  have:b4 i d=ak:=by cases c:b4 i d with
    |false=>rfl
    |true=>exact bz (c4 c) h
  simp[Map.put,this]
def bc{a:Type}(f:Nat->a)(d:Nat)(v:a):Nat->a:=λi=>bif b4 i d then v else f i
theorem cc{a:Type}(f:Nat->a)(d:Nat)(v:a):bc f d v d=v:=by simp[bc]
theorem cb{a:Type}(f:Nat->a)(d i:Nat)(v:a)(h:i≠d):bc f d v i=f i:=by
  have:b4 i d=ak:=by cases c:b4 i d with
    |false=>rfl
    |true=>exact bz (c4 c) h
  simp[bc,this]
structure S where
  t:Nat->V
  H:Nat->Option E
  u:Nat->Bool
structure fq where
  x2:Nat
  W:World
def fq.ok(G:fq)(w:World):Prop:=G.x2<=w.heap.size/\ ∀b,b<G.x2->w.heap[b]? =G.W.heap[b]?
structure Ctx where
  P:Program
  G:fq
  w0:World
  X:Nat->Prop
  dL:Nat
  gM:Map
  nt:Nat
def Ctx.M(K:Ctx)(b:Nat):Prop:= ∃id,id<K.dL/\At K.gM id b
def own(K:Ctx)(β:Map)(H:Nat->Option E)(b:Nat):Prop:=K.X b\/ ∃id,H id≠aj/\At β id b
def kB(n:Nat)(a c:Map)(i:Nat):Prop:= ∀id,id<n->(c id=a id)\/ ∃q g e h,a id=aa (q,g)/\1<=g/\c id=aa (e,h)/\g<h/\ ∀b,e=aa b->q=aa b\/i<=b
theorem kB.refl(n:Nat)(β:Map)(sz:Nat):kB n β β sz:=λ_ _=> .inl rfl
theorem kB.keep{X U T:Map}(h:kB n X U sz)(a: ∀id,id<n->T id=U id):kB n X T sz:=λid hid=>by rw[a id hid];exact h id hid
theorem kB.more{T U X:Map}(h:kB n T U sz)(l: ∀id,id<n->(X id=U id)\/ ∃q g a i,U id=aa (q,g)/\1<=g/\X id=aa (a,i)/\g<i/\ ∀b,a=aa b->q=aa b\/sz<=b):kB n T X sz:=by
  intro id hid;rcases l id hid with e|⟨q,g,a,i,aS,a2,a3,a4,a5⟩
  · rw[e];exact h id hid
  · rcases h id hid with e|⟨m,o,x,y,p,r,k,z,s⟩
    · exact .inr ⟨q,g,a,i,by rw[<-e];exact aS,a2,a3,a4,a5⟩
    · rw[aS] at k;cases k;exact .inr ⟨m,o,a,i,p,r,a3,O,λb w=>by
        rcases a5 b w with c|c
        · exact s b c
        · exact .inr c⟩
theorem kB.grow{T U X:Map}(h:kB n T U sz)(k gen:Nat)(q c:Option Nat)(l:U k=aa (q,gen))(r:1<=gen)(m:X k=aa (c,gen+1))(a: ∀b,c=aa b->q=aa b\/sz<=b)
    (s: ∀id,id≠k->X id=U id):kB n T X sz:=by
  intro id hid;by_cases o:id=k
  · subst o;rcases h id hid with e|⟨w,x,B,C,e,y,p,F,z⟩
    · exact .inr ⟨q,gen,c,gen+1,by rw[<-e];exact l,r,m,oO _,a⟩
    · rw[l] at p;cases p;exact .inr ⟨w,x,c,gen+1,e,y,m,O,λb A=>by
        rcases a b A with i|i
        · exact z b i
        · exact .inr i⟩
  · rw[s id o];exact h id hid
theorem Shaped.ext{X:Map}(h:Shaped X a w)(c:a.heap.size<=w.heap.size)(e:Ext (λ_=>False) w w'):Shaped X a w':=
  λb i=>(xY (e.keep b (l9 i c) λh=>h)).trans (h b i)
structure Rel (K:Ctx) (β:Map) (s:S) (a:Act) (w:World):Prop where
  ext:Ext K.M K.w0 w
  qH:K.G.ok K.w0
  qY: ∀b,K.M b->K.G.x2<=b
  kz: ∀b,K.X b->b<K.w0.heap.size/\ ¬K.M b
  base:kB K.dL K.gM β K.w0.heap.size
  j1:Shaped K.gM K.w0 w
  low: ∀id,id<K.dL->s.u id=ab
  eh: ∀id,s.u id=ak->β id=aj
  eQ: ∀id b,s.u id=ak-> ¬β.n id b
  uN: ∀id lk b,At K.gM id b->At K.gM lk b->id=lk
  inj: ∀id lk b,At β id b->At β lk b->id=lk
  fresh: ∀id b,At β id b->(K.M b\/K.w0.heap.size<=b)/\b<w.heap.size
  heap: ∀id e,s.H id=aa e->s.u id=ab/\cN β w (own K β s.H) id e
  dB: ∀i,bp β w (own K β s.H) (s.t i) (a.tmps.getD i undef)
  nt:a.tmps.size=K.nt
  defers:a.defers=[]
theorem WB{G:fq}(h:G.ok w)(e:Ext X w w')(c: ∀b,X b->G.x2<=b):G.ok w':=
  ⟨hA h.1 e.size,λb a=>(e.keep b (l9 a h.1) λi=>by have:=c b i;omega).trans (h.2 b a)⟩
variable {K:Ctx}
theorem Rel.BD{s:S}{a:Act}(h:Rel K β s a w):K.G.ok w:=WB h.qH h.ext h.qY
mutual
def V.ok(u:Nat->Bool):V->Bool
  | .ref id _=>u id
  | .bn id _ _ _ _=>u id
  | .cK id _ _ _ _=>u id
  | .agg cs=>gI u cs
  | .bQ cs=>gI u cs
  | .fn _ cs=>gI u cs
  | .t _=>ab
  | .aQ _=>ab
  | .c9=>ab
def gI(u:Nat->Bool):List V->Bool
  | []=>ab
  |c::cs=>V.ok u c&&gI u cs
end
theorem vy{u:Nat->Bool}: ∀{cs:List V} {i:Nat} {c:V},gI u cs=ab->cs[i]? =aa c->V.ok u c=ab
  | [],_,_,_,h=>by simp at h
  |c::cs,0,_,h,a=>by simp at a;subst a;simp[gI] at h;exact h.1
  |c::cs,i+1,_,h,a=>by simp at a;simp[gI] at h;exact vy h.2 a
theorem bp.under{u:Nat->Bool}{x:V}(h:bp β w X x v)(B: ∀b,Z b->X b)
    (l: ∀id,u id=ab->β' id=β id) (p:x.ok u=ab):bp β' w Z x v:=by
  induction h with
  |t x v h=>exact .t x v (h.mono (Ext.refl _ _) λb _=>B b)
  |agg cs y k _ z=>exact .agg cs y k (λi c u o A=>z i c u o A (vy (by simpa[V.ok] using p) o))
  |bQ cs y k _ z=>exact .bQ cs y k (λi c u o A=>z i c u o A (vy (by simpa[V.ok] using p) o))
  |ref id e b n=>exact .ref id e b (by rw[l id (by simpa[V.ok] using p)];exact n)
  |aQ cells b e f n C o K=>exact .aQ cells b e f n (λh=>C (B _ h)) o (λj x h=>(K j x h).mono (Ext.refl _ _) λb _=>B b)
  |bn id gen a e s F b m ty r n L Q R k W=>exact .bn id gen a e s F b m ty r (by rw[l id (by simpa[V.ok] using p)];exact n) L Q R k W
  |iO id gen a r n=>exact .iO id gen a r (by rw[l id (by simpa[V.ok] using p)];exact n)
  |ln id gen a e s v q g G n r=>exact .ln id gen a e s v q g G (by rw[l id (by simpa[V.ok] using p)];exact n) r
  |cK id gen a i e b r n=>exact .cK id gen a i e b r (by rw[l id (by simpa[V.ok] using p)];exact n)
  |lM id gen a i e v q g G n r=>exact .lM id gen a i e v q g G (by rw[l id (by simpa[V.ok] using p)];exact n) r
  |fn f cs y k _ z=>exact .fn f cs y k (λi c u o A=>z i c u o A (vy (by simpa[V.ok] using p) o))
  |c9 v=>exact .c9 v
def uc(u:Nat->Bool):List (Nat×Nat×V)->Bool
  | []=>ab
  |h::a=>h.2.2.ok u&&uc u a
theorem Fh{u:Nat->Bool}: ∀{a:List (Nat×Nat×V)} {i j:Nat} {v:V},uc u a=ab->(i,j,v)∈a->v.ok u=ab
  | [],_,_,_,_,h=>by cases h
  |h::a,i,j,v,c,hm=>by
    simp only[uc,b5] at c;rcases ef.1 hm with rfl|hm
    · exact c.1
    · exact Fh c.2 hm
def E.ok(u:Nat->Bool):E->Bool
  | .cells cs=>gI u cs
  | .arr _ _ _ _=>ab
  | .bd _ _ _ _ a=>uc u a
def S.le(K:Ctx)(s s':S):Prop:= ∀β a w,Rel K β s a w-> ∃c,Rel K c s' a w
theorem S.le.refl(K:Ctx)(s:S):s.le K s:=λβ _ _ h=>⟨β,h⟩
theorem S.le.trans{a b c:S}(h:a.le K b)(k:b.le K c):a.le K c:=λβ x w i=>let ⟨e,l⟩:=h β x w i;k e x w l
def dC(v c:V):Prop:= ∀a w X u,bp a w X v u->bp a w X c u
theorem dC.refl(v:V):dC v v:=λ_ _ _ _ h=>h
theorem dC.of_eq{v dO:V}(h:v=dO):dC v dO:=h▸dC.refl v
theorem dC.nil:dC (.t .fF) (.t (.bD [])):=by intro β w X u h;cases h with|t _ _ h=>cases h;exact .t _ _ (.gn _ _)
theorem dC.c9(v:V):dC v .c9:=λ_ _ _ _ _=> .c9 _
theorem dC.trans{a b c:V}(h:dC a b)(k:dC b c):dC a c:=λe w X u i=>k e w X u (h e w X u i)
def fG:List V->List V->Prop
  | [],[]=>True
  |v::c,e::a=>dC v e/\fG c a
  |_,_=>False
theorem fG.refl: ∀a:List V,fG a a
  | []=>trivial
  |v::a=>⟨dC.refl v,fG.refl a⟩
theorem fG.get: ∀{c a:List V},fG c a->c.length=a.length/\ ∀(i:Nat) e,a[i]? =aa e-> ∃v,c[i]? =aa v/\dC v e
  | [],[],_=>⟨rfl,λi e h=>by simp at h⟩
  |v::c,e::a,h=>by
    obtain⟨l,m⟩:=fG.get h.2;refine⟨by simp[l],λi x k=>?_⟩;cases i with
    |zero=>simp at k;subst k;exact⟨v,rfl,h.1⟩
    |succ i=>simp at k;exact m i x k
  | [],_::_,h=>h.elim
  |_::_,[],h=>h.elim
theorem dC.agg{e a:List V}(h:fG e a):dC (.agg e) (.agg a):=by
  intro s w X u k;obtain⟨x,l⟩:=h.get;cases k with
  |agg _ m y n=>exact .agg _ m O λi c u o p=>by obtain⟨v,q,r⟩:=l i c o;exact r _ _ _ _ (n i v u q p)
theorem dC.bQ{e a:List V}(h:fG e a):dC (.bQ e) (.bQ a):=by
  intro s w X u k;obtain⟨x,l⟩:=h.get;cases k with
  |bQ _ m y n=>exact .bQ _ m O λi c u o p=>by obtain⟨v,q,r⟩:=l i c o;exact r _ _ _ _ (n i v u q p)
def kC(e a:E):Prop:=match e,a with
  | .cells cs,.cells c=>fG cs c
  |e,a=>e=a
theorem kC.refl(e:E):kC e e:=by cases e with
  |cells cs=>exact fG.refl cs
  |arr=>rfl
  |bd=>rfl
theorem kC.yj{e':E}(h:kC e e'){T:Map}(k:cN T w X n e):cN T w X n e':=by
  cases e with
  |cells cs=>
    cases e' with
    |cells o=>
      obtain⟨C,p⟩:=fG.get h;obtain⟨b,q,ty,r,s,F,x⟩:=k;exact⟨b,q,ty,r,s,O,λi c u y z=>by obtain⟨v,A,B⟩:=p i c y;exact B _ _ _ _ (x i v u A z)⟩
    |arr=>cases h
    |bd=>cases h
  |arr ty gen l a=>
    cases e' with
    |cells=>cases h
    |arr=>cases h;exact k
    |bd=>cases h
  |bd G m gen a K=>
    cases e' with
    |cells=>cases h
    |arr=>cases h
    |bd=>cases h;exact k
def o4(t:Nat->V)(u:Nat->Bool)(a:Nat->V):Prop:= ∀i,a i= .c9\/(dC (t i) (a i)/\(a i).ok u=ab)
def lD(H:Nat->Option E)(u:Nat->Bool)(c:Nat->Option E):Prop:= ∀id e,c id=aa e->(∃a,H id=aa a/\kC a e)/\u id=ab/\e.ok u=ab
def tA(u a:Nat->Bool):Prop:= ∀id,a id=ab->u id=ab
def mH:Nat->(Nat->Bool)->Bool
  |0,_=>ab
  |n+1,u=>u n&&mH n u
theorem D'{u:Nat->Bool}: ∀{n:Nat},mH n u=ab-> ∀id,id<n->u id=ab
  |0,_,_,h=>bz h (p4 _)
  |n+1,h,id,hid=>by
    simp[mH] at h;by_cases e:id=n
    · subst e;exact h.1
    · exact D' h.2 id O
def pX:Nat->V:=λ_=> .c9
def oS:Nat->Option E:=λ_=>aj
def gG:Nat->Bool:=λ_=>ak
theorem o4.nil(t:Nat->V)(u:Nat->Bool):o4 t u pX:=λ_=> .inl rfl
theorem o4.bc{t:Nat->V}{u:Nat->Bool}{r:Nat->V}{d:Nat}{v:V}(h:dC (t d) v)(c:v.ok u=ab)(e:o4 t u r):o4 t u (Lift.bc r d v):=by
  intro i;by_cases a:i=d
  · subst a;rw[cc];exact .inr ⟨h,c⟩
  · rw[cb _ _ _ _ a];exact e i
theorem lD.nil(H:Nat->Option E)(u:Nat->Bool):lD H u oS:=λ_ _ h=>by simp[oS] at h
theorem lD.bc{H:Nat->Option E}{u:Nat->Bool}{r:Nat->Option E}{d:Nat}(c:E)(h:H d=aa c)(l:kC c e)(m:u d=ab)(n:e.ok u=ab)(o:lD H u r):lD H u (Lift.bc r d (aa e)):=by
  intro i e' a;by_cases k:i=d
  · subst k;rw[cc] at a;cases a;exact⟨⟨c,h,l⟩,m,n⟩
  · rw[cb _ _ _ _ k] at a;exact o i e' a
theorem tA.nil(u:Nat->Bool):tA u gG:=λ_ h=>by simp[gG] at h
theorem tA.bc{u r:Nat->Bool}{d:Nat}(h:u d=ab)(e:tA u r):tA u (Lift.bc r d ab):=by
  intro i a;by_cases c:i=d
  · subst c;exact h
  · rw[cb _ _ _ _ c] at a;exact e i a
theorem cN.under{u:Nat->Bool}(h:cN β w X k e)(C: ∀b,Z b->X b)
    (a: ∀k,u k=ab->β' k=β k) (l:u k=ab) (K:e.ok u=ab) (L: ∀b,β'.n k b↔β.n k b:=by exact λ_=>Iff.rfl):cN β' w Z k e:=by
  cases e with
  |cells cs=>
    obtain⟨b,r,ty,p,q,s,y⟩:=h;exact⟨b,r,ty,by rw[a k l];exact p,q,s,λi c u F R=>(y i c u F R).under C a (vy K F)⟩
  |arr ty gen Q z=>
    refine⟨h.1,?_⟩;rcases h.2 with ⟨p,q⟩|⟨b,r,p,q,s,y,A⟩
    · exact .inl ⟨by rw[a k l];exact p,q⟩
    · exact .inr ⟨b,r,by rw[a k l];exact p,q,s,y,λi j o x u aS a2 a3=>(A i j o x u aS a2 a3).mono (Ext.refl _ _) λb _=>C b⟩
  |bd M m gen z N=>
    refine⟨h.1,?_⟩;rcases h.2 with ⟨p,q,W⟩|⟨b,r,B,p,q,s,y,A,f,t,D⟩
    · exact .inl ⟨by rw[a k l];exact p,q,λc F=>W c ((L c).1 F)⟩
    · refine .inr ⟨b,r,B,by rw[a k l];exact p,q,s,y,λi j o x u aS a2 a3=>⟨λv G=>⟨((A i j o x u aS a2 a3).1 v G).1.under C a (Fh K G),((A i j o x u aS a2 a3).1 v G).2⟩,
        λI=>((A i j o x u aS a2 a3).2 I).mono (Ext.refl _ _) (λb _=>C b) λ_ _=>rfl⟩,f,t,λc=>(L c).trans (D c)⟩
def cut(β:Map)(u:Nat->Bool):Map:=⟨λid=>bif u id then β id else aj,λid b=>u id=ab/\β.n id b⟩
theorem Bb{X:Map}{u:Nat->Bool}{b:Nat}(h:At (cut X u) n b):At X n b:=by
  rcases h with ⟨g,h⟩|h
  · refine .inl ⟨g,?_⟩;by_cases a:u n=ab
    · simpa[cut,a] using h
    · simp[cut,a] at h
  · exact .inr h.2
theorem wX{X:Map}{u:Nat->Bool}{id:Nat}(h:u id=ab):cut X u id=X id:=by simp[cut,h]
theorem Eb{s s':S}(c:lD s.H s'.u s'.H): ∀b,own K (cut β s'.u) s'.H b->own K β s.H b:=by
  rintro b (h|⟨id,i,k⟩)
  · exact .inl h
  · cases a:s'.H id with
    |none=>exact bz a i
    |some e=>
      obtain⟨m,l,_⟩:=(c id e a).1;exact .inr ⟨id,by rw[l];simp,Bb k⟩
theorem Rel.cut{s s':S}{a:Act}(l:Rel K β s a w)(q:o4 s.t s'.u s'.t)(p:lD s.H s'.u s'.H)(n:mH K.dL s'.u=ab):Rel K (cut β s'.u) s' a w:=by
  have c:=Eb (K:=K) (β:=β) p;refine {l with base:= ?_,low:=D' n,eh:= ?_,eQ:= ?_,inj:= ?_,fresh:= ?_,heap:= ?_,dB:= ?_}
  · exact l.base.keep λid hid=>wX (D' n id hid)
  · intro id hid;simp[Lift.cut,hid]
  · intro id b hid h;rw[h.1] at hid;cases hid
  · intro id o b m k;exact l.inj id o b (Bb m) (Bb k)
  · intro id b h;exact l.fresh id b (Bb h)
  · intro id e r;obtain⟨⟨x,m,n⟩,k,y⟩:=p id e r;exact⟨k,(n.yj (l.heap id x m).2).under c (λ_ h=>wX h) k y λ_=>⟨λh=>h.2,λh=>⟨k,h⟩⟩⟩
  · intro i;rcases q i with h|⟨m,k⟩
    · rw[h];exact .c9 _
    · exact(m _ _ _ _ (l.dB i)).under c (λ_ h=>wX h) k
theorem abY{s s':S}(a:o4 s.t s'.u s'.t)(c:lD s.H s'.u s'.H)(_hu:tA s.u s'.u)(e:mH K.dL s'.u=ab):s.le K s':=
  λh _ _ i=>⟨Lift.cut h s'.u,i.cut a c e⟩
def zO:Value->V
  | .bool b=> .t (.bool b)
  | .int k n=> .t (.int k n)
  | .string s=> .t (.str s.data.toList)
  | .slice aj 0 0=> .t .fF
  | .pointer aj=> .t .hP
  | .nilIface=> .t .gJ
  | .nilFunc=> .t .nw
  |_=> .c9
def ha:Value->V
  | .agg cs=> .agg (cs.toList.map zO)
  |v=>zO v
def S.get(s:S):Operand->V
  | .tmp t=>s.t t
  | .const v=>ha v
  | .func f=> .fn f []
  | .global _=> .c9
theorem Kl(a:Map)(w:World)(X:Nat->Prop)(v:Value):bp a w X (zO v) v:=by
  unfold zO;split
  · exact .t _ _ (.bool _)
  · exact .t _ _ (.int _ _)
  · rename_i s;have h:=dh.str (w:=w) (X:=X) s.data.toList;exact .t _ _ (by simpa using h)
  · exact .t _ _ .fF
  · exact .t _ _ .hP
  · exact .t _ _ .gJ
  · exact .t _ _ .nw
  · exact .c9 _
theorem yq(β:Map)(w:World)(X:Nat->Prop)(v:Value):bp β w X (ha v) v:=by
  unfold ha;split
  · rename_i cs;exact .agg _ _ aW (λi c u a h=>by
      simp only[List.getElem?_map,Array.getElem?_toList,Option.map_eq_some_iff] at a;obtain⟨l,e,k⟩:=a;rw[h] at e;cases e;rw[<-k];exact Kl _ _ _ _)
  · exact Kl _ _ _ _
def dw(β:Map)(w:World)(X:Nat->Prop):List V->List Value->Prop
  | [],[]=>True
  |v::a,u::c=>bp β w X v u/\dw β w X a c
  |_,_=>False
theorem dw.mono{β β':Map}{w w':World}{X Z:Nat->Prop}: ∀{c:List V} {i:List Value},dw β w X c i->Ext X w w'->(∀b,b<w.heap.size->Z b->X b)->
    dS β β'->Shaped β w w'->dw β' w' Z c i
  | [],[],_,_,_,_,_=>trivial
  |_::_,_::_,h,e,k,a,l=>⟨h.1.mono e k a l,dw.mono h.2 e k a l⟩
  | [],_::_,h,_,_,_,_=>h.elim
  |_::_,[],h,_,_,_,_=>h.elim
theorem dw.le: ∀{β:Map} {w:World} {X:Nat->Prop} {c a:List V} {e:List Value},dw β w X c e->fG c a->dw β w X a e
  |_,_,_,[],[],[],_,_=>trivial
  |_,_,_,_::_,_::_,_::_,h,k=>⟨k.1 _ _ _ _ h.1,dw.le h.2 k.2⟩
  |_,_,_,[],_::_,_,_,k=>k.elim
  |_,_,_,_::_,[],_,_,k=>k.elim
  |_,_,_,[],[],_::_,h,_=>h.elim
  |_,_,_,_::_,_::_,[],h,_=>h.elim
theorem Rel.get{s:S}{a:Act}(h:Rel K β s a w)(x:Operand):bp β w (own K β s.H) (s.get x) (a.eval x):=by
  cases x with
  |tmp t=>exact h.dB t
  |const v=>exact yq _ _ _ v
  |func f=>exact .fn f [] #[] rfl (λi c u e _=>by simp at e)
  |global g=>exact .c9 _
theorem Rel.oi{s:S}{a:Act}(h:Rel K β s a w): ∀c:List Operand,dw β w (own K β s.H) (c.map s.get) (c.map a.eval)
  | []=>trivial
  |x::c=>⟨h.get x,h.oi c⟩
def b9(P:Program)(H:Nat->Option E)(o:Oper)(a:List V)(v:V):Prop:=
  ∀(c:Map) (w:World) (X:Nat->Prop) (h:Operand->Value),(∀id e,H id=aa e->cN c w X id e)->
    dw c w X a (o.op.operands.toList.map h)-> ∃u,(execOp h o).run P w= .ok (.value u) w/\bp c w X v u
def dY(K:Ctx)(o:Oper)(s i:S):Prop:=
  ∀k a w next Q,Rel K k s a w->(∀c e h,Rel K c i e h->next e h)->o.wp K.P a w next Q
def S.put(s:S)(d:Option Tmp)(v:V):S:=match d with
  |some d=>{s with t:=bc s.t d v}
  |none=>s
theorem Rel.put{s:S}{a:Act}(h:Rel K β s a w)(d:Option Tmp)(k: ∀i,d=aa i->df i K.nt=ab){v:V}(l:bp β w (own K β s.H) v u):
    Rel K β (s.put d v) (a.put d u) w:=by
  cases d with
  |none=>exact h
  |some d=>
    have c:d<a.tmps.size:=by rw[h.nt];have:=k d rfl;simpa[Nat.blt_eq] using this
    refine {h with dB:= ?_,nt:= ?_}
    · intro i;simp only[Act.put,S.put];by_cases e:i=d
      · subst e;rw[cc];simp only[Array.getD_eq_getD_getElem?,Array.getElem?_setIfInBounds_self_of_lt c,Option.getD_some];exact l
      · rw[cb _ _ _ _ e];simp only[Array.getD_eq_getD_getElem?,Array.getElem?_setIfInBounds_ne (Ne.symm e)]
        have:=h.dB i;simpa only[Array.getD_eq_getD_getElem?] using this
    · simpa[Act.put] using h.nt
theorem Vc{o:Oper}{s:S}{vals:List V}{v:V}(m: ∀i,o.dst=aa i->df i K.nt=ab)(n:fG (o.op.operands.toList.map s.get) vals)(h:b9 K.P s.H o vals v):
    dY K o s (s.put o.dst v):=by
  intro k a w next Q l p
  obtain⟨u,c,q⟩:=h k w (own K k s.H) a.eval (λid e r=>(l.heap id e r).2) ((l.oi _).le n);unfold Oper.wp;rw[c];exact p k _ w (l.put o.dst m q)
section nS
variable {P:Program}{H:Nat->Option E}{d:Option Tmp}{ty:TypeId}{pos:String}{af:Array Edge}{g:Option (Nat×Bool)}
theorem ac4(x:Operand)(v:V):b9 P H ⟨d,.move x,ty,pos,af,g⟩ [v] v:=by intro e w X a _ c;exact⟨a x,rfl,c.1⟩
theorem YQ(x:Operand)(v:V):b9 P H ⟨d,.assign x,ty,pos,af,g⟩ [v] v:=by intro e w X a _ c;exact⟨a x,rfl,c.1⟩
theorem nu{T:Map}{b:Bool}(h:bp T w X (.t (.bool b)) u):u= .bool b:=by cases h with|t _ _ h=>cases h with|bool=>rfl
theorem dI{T:Map}{k:IntKind}{n:Int}(h:bp T w X (.t (.int k n)) u):u= .int k n:=by cases h with|t _ _ h=>cases h with|int=>rfl
theorem hJ{T:Map}{l:List UInt8}(h:bp T w X (.t (.str l)) u):u= .string ⟨l.toArray⟩:=by cases h with|t _ _ h=>cases h with|str=>rfl
theorem UO(c x y:Operand)(v e:V):b9 P H ⟨d,.pick c x y,ty,pos,af,g⟩ [.t (.bool ab),v,e] v:=by
  intro i w X h _ a;refine⟨h x,?_,a.2.1⟩
  have:=nu a.1;simp[execOp,this,asBool]
theorem UH(c x y:Operand)(v dO:V):b9 P H ⟨d,.pick c x y,ty,pos,af,g⟩ [.t (.bool ak),v,dO] dO:=by
  intro h w X e _ a;refine⟨e y,?_,a.2.2.1⟩
  have:=nu a.1;simp[execOp,this,asBool]
theorem adu(x y:Operand)(t c:TypeId)(k:IntKind)(m n:Int):b9 P H ⟨d,.binOp .add t x y c,ty,pos,af,g⟩ [.t (.int k m),.t (.int k n)] (.t (.int k (k.wrap (m+n)))):=by intro e w X h _ a;refine⟨.int k (k.wrap (m+n)),?_,.t _ _ (.int _ _)⟩;simp[execOp,dI a.1,dI a.2.1,eqGuard,binOp,Op.intArith]
end nS
end
section
def cJ(K:Ctx)(c:Code)(s:S)(Q:Exit->S->Prop):Prop:=
  ∀m a w h,Rel K m s a w->(∀e i d k l,Q e i->Rel K d i k l->h e k l)->c.wp K.P h a w
def qs(K:Ctx)(c:Array Oper)(l:List Oper)(s:S)(Q:S->Prop):Prop:=
  ∀m a w e,Rel K m s a w->(∀h d i k,Q h->Rel K d h i k->e .normal i k)->wpList K.P c e l a w
def qw(next:S->Prop)(Q:Exit->S->Prop):Exit->S->Prop
  | .normal,s=>next s
  |e,s=>Q e s
def w8(c:Nat)(Q:Exit->S->Prop):Exit->S->Prop
  | .exit a,s=>bif b4 a c then Q .normal s else Q (.exit a) s
  |e,s=>Q e s
def Bd(a:S->Prop)(Q:Exit->S->Prop):Exit->S->Prop
  | .normal,s=>a s
  |e,s=>Q e s
variable {P:Program}{c x y:Code}{a:Act}{w:World}{b:Bool}{n t:Nat}{β:Map}{X:Nat->Prop}
theorem Us{R:Type}{Q:Exit->Act->World->Prop}(F:R->Act->World->Prop)(mg :R->Nat)(x:R)(L:F x a w)
    (p: ∀x a w,F x a w->c.wp P (Exit.then (λz w'=> ∃y,F y z w'/\ mg y< mg x) Q) a w):(Code.loop c).wp P Q a w:=by
  intro b k cs;have G: ∀n x a w,mg x=n->F x a w->
      ∃e z w',Q e z w'/\Arrives P (lone (b.at a (.code c:: .inLoop c::k)) cs w) b k cs e z w':=by
    intro n;induction n using Nat.strongRecOn with
    |_ n W=>
      intro x a w X Z;obtain⟨e,h,i,o,d⟩:=p x a w Z b (.inLoop c::k) cs;cases e with
      |normal=>
        obtain⟨y,q,H⟩:=o;obtain⟨A,B,C,r,m⟩:=W (mg y) (X▸H) y h i rfl q;exact⟨A,B,C,r,.of_steps (Steps.trans d (.one step_inLoop)) m⟩
      |exit id=>exact⟨_,h,i,o,.pass (x:= .inLoop c) rfl (λ_ _=> .inl aW) d⟩
      |goto l=>exact⟨_,h,i,o,.pass (x:= .inLoop c) rfl (λ_ _=> .inl aW) d⟩
      |ret=>exact⟨_,h,i,o,.pass (x:= .inLoop c) rfl (λ_ _=> .inl aW) d⟩
      |panic f=>exact⟨_,h,i,o,.pass (x:= .inLoop c) rfl (λ_ _=> .inl aW) d⟩
      |outgrown=>exact⟨_,h,i,o,.pass (x:= .inLoop c) rfl (λ_ _=> .inl aW) d⟩
  obtain⟨e,z,w',o,d⟩:=G _ x a w rfl L;exact⟨e,z,w',o,.of_steps (.one step_loop) d⟩
section rules
variable {K:Ctx}{s:S}{Q:Exit->S->Prop}
theorem vX{E:Exit->S->Prop}(h:cJ K c s Q)(k: ∀e s,Q e s->E e s):cJ K c s E:=
  λl a w m n o=>h l a w m n λe i d p x q r=>o e i d p x (k e i q) r
theorem u5{b:S}(i:s.le K b)(h:cJ K c b Q):cJ K c s Q:=
  λk a w l m n=>let ⟨d,e⟩:=i k a w m;h d a w l e n
theorem Az(h:cJ K x s (qw (λn=>cJ K y n Q) Q)):cJ K (.seq x y) s Q:=by
  intro o a w p q i;refine wp_seq (h o a w _ q ?_);intro e A m r z k d;cases e with
  |normal=>exact k m r z p d i
  |exit id=>exact i _ _ _ _ _ k d
  |goto l=>exact i _ _ _ _ _ k d
  |ret=>exact i _ _ _ _ _ k d
  |panic c=>exact i _ _ _ _ _ k d
  |outgrown=>exact i _ _ _ _ _ k d
theorem YV(h:Q .normal s):cJ K .skip s Q:=λc a w _ d e=>wp_skip (e _ _ c a w h d)
theorem aaS(h:Q .ret s):cJ K .ret s Q:=λc a w _ d e=>wp_ret (e _ _ c a w h d)
theorem YX(h:Q (.exit n) s):cJ K (.exit n) s Q:=λc a w _ d e=>wp_exit (e _ _ c a w h d)
theorem pR{c:Operand}(l:s.get c= .t (.bool b))(m:b=ab->cJ K x s Q)(n:b=ak->cJ K y s Q):cJ K (.cond c x y) s Q:=by
  intro e a w i d k;have h:=d.get c;rw[l] at h;have a7:=nu h;cases b with
  |true=>exact wp_cond_true a7 (m rfl e a w i d k)
  |false=>exact wp_cond_false a7 (n rfl e a w i d k)
theorem XR(h:cJ K c s (w8 n Q)):cJ K (.block n c) s Q:=by
  intro o a w x p m;refine wp_block (h o a w _ p ?_);intro e y q z A k d;cases e with
  |exit i=>
    by_cases hid:i=n
    · subst hid;simp only[w8,Exit.inBlock,if_true] at*;rw[show b4 i i=ab by simp,cond_true] at k;exact m _ _ _ _ _ k d
    · simp only[w8,Exit.inBlock] at*;rw[aY hid];rw[show b4 i n=ak from by cases r:b4 i n with
        |false=>rfl
        |true=>exact bz (c4 r) hid,cond_false] at k
      exact m _ _ _ _ _ k d
  |normal=>exact m _ _ _ _ _ k d
  |goto l=>exact m _ _ _ _ _ k d
  |ret=>exact m _ _ _ _ _ k d
  |panic c=>exact m _ _ _ _ _ k d
  |outgrown=>exact m _ _ _ _ _ k d
theorem YW{ι:Type}(o:ι->S)(p:ι->Prop)(mg :ι->Nat)(x:ι)(W:p x)(X:s.le K (o x))
    (h: ∀x,p x->cJ K c (o x) (Bd (λR=> ∃y,p y/\ mg y< mg x/\R.le K (o y)) Q)):cJ K (.loop c) s Q:=by
  intro Z a w u b m;obtain⟨i,q⟩:=X Z a w b;refine Us (λy f g=>p y/\ ∃i,Rel K i (o y) f g) mg x ⟨W,i,q⟩ ?_;intro y aS j ⟨r,A,B⟩;refine h y r A aS j _ B ?_;intro e R C a2 t k d;cases e with
  |normal=>
    obtain⟨z,F,G,n⟩:=k;obtain⟨H,L⟩:=n C a2 t d;exact⟨z,⟨F,H,L⟩,G⟩
  |exit id=>exact m _ _ _ _ _ k d
  |goto l=>exact m _ _ _ _ _ k d
  |ret=>exact m _ _ _ _ _ k d
  |panic c=>exact m _ _ _ _ _ k d
  |outgrown=>exact m _ _ _ _ _ k d
theorem YY{V:Array Oper}{Q:S->Prop}(h:Q s):qs K V [] s Q:=λc a w _ d e=>e s c a w h d
theorem Rel.bool(i:Rel K β s a w)(h:s.t t= .t (.bool b)):a.tmps[t]? =aa (.bool b):=by
  have d:=i.dB t;rw[h] at d;have c:=nu d;rw[rk] at c;cases e:a.tmps[t]? with
  |none=>rw[e] at c;simp[undef] at c
  |some x=>rw[e] at c;simp at c;rw[c]
theorem Mv{T:Map}:bp T w X (.bQ []) undef:= .bQ [] #[] rfl λi c u h _=>by simp at h
theorem Rel.ahO(e:Rel K β s a w){ops:Array Oper}{j:Nat}{want:Bool}(m:(ops[j]?).bind (·.dst)=aa t)(h:s.t t= .bQ []):yielded ops a.tmps j≠aa want:=by
  have c:=e.dB t;rw[h] at c;have d:a.tmps.getD t undef= .tuple #[]:=by
    generalize a.tmps.getD t undef=y at c;cases c with
    |bQ _ i k _=>
      have:i= #[]:=by simpa using k
      rw[this]
  have n: ∀b,a.tmps[t]? ≠aa (.bool b):=by
    intro b l;rw[rk,l] at d;simp at d
  unfold yielded
  grind
def hf:Map:=⟨λ_=>aj,λ_ _=>False⟩
theorem Fi{b:Nat}(h:At hf n b):False:=by
  rcases h with ⟨_,h⟩|h
  · simp[hf] at h
  · exact h
def Ee(P:Program)(G:fq)(f:FuncId)(args:List V)(r:V):Prop:=
  ∀(w:World) (X:Nat->Prop) (a:List Value),G.ok w->(∀b,X b->b<w.heap.size)->dw hf w X args a->
    Calls P f a.toArray w λe c=> ∃u,e= .returned u/\Ext (λ_=>False) w c/\bp hf c X r u
theorem bp.any{Z:Nat->Prop}{x:V}{v:Value}(h:bp hf w X x v)(a: ∀b,Z b->X b):bp β w Z x v:=
  h.mono (Ext.refl _ _) (λb _=>a b) (λ_ _ _ h=>by simp[hf] at h) (Shaped.refl _ _)
theorem dw.Ij: ∀{β:Map} {w:World} {X:Nat->Prop} {a:List V} {d:List Value},dw β w X a d->gI gG a=ab->dw hf w X a d
  |_,_,_,[],[],_,_=>trivial
  |_,_,_,_::_,_::_,h,c=>by
    simp[gI] at c;exact⟨h.1.under (u:=gG) (λ_ h=>h) (λ_ h=>by simp[gG] at h) c.1,dw.Ij h.2 c.2⟩
  |_,_,_,[],_::_,h,_=>h.elim
  |_,_,_,_::_,[],h,_=>h.elim
theorem Rel.grow{w':World}(h:Rel K β s a w)(e:Ext (λ_=>False) w w'):Rel K β s a w':=by
  have c:Ext (own K β s.H) w w':=e.weaken λ_ _ h=>h.elim;refine {h with ext:=h.ext.trans (e.weaken λ_ _ h=>h.elim),j1:=h.j1.ext h.ext.size e,fresh:= ?_,heap:= ?_,dB:= ?_}
  · intro id b d;exact⟨(h.fresh id b d).1,l9 (h.fresh id b d).2 e.size⟩
  · intro id k l;obtain⟨m,n⟩:=h.heap id k l;exact⟨m,n.mono c (λ_ _ h=>h) (dS.refl _) (λ_ h=>h) (i8 e) λb d=>e.keep b (h.fresh id b d).2 λh=>h⟩
  · intro i;exact(h.dB i).mono c (λ_ _ h=>h) (dS.refl _) (i8 e)
theorem dY.call{o:Oper}{f:FuncId}{d:Func}{c:Array Operand}{k:Array TypeId}{vals:List V}{r:V}
    (A:o.op= .call {callee:= .value (.func f),args:=c,argTypes:=k}) (B:K.P.funcs[f]? =aa d) (C:(d.name== "runtime.NumGoroutine")=ak) (q:d.body.isNone=ak)
    (F: ∀i,o.dst=aa i->df i K.nt=ab) (L:fG (c.toList.map s.get) vals) (R:gI gG vals=ab) (h:Ee K.P K.G f vals r):dY K o s (s.put o.dst r):=by
  intro x a w next Q m W
  have y:d.name≠ "runtime.NumGoroutine" :=by simpa using C
  have z:d.body≠aj:=by intro e;simp[e] at q
  have n:(execOp a.eval o).run K.P w= .ok (.enter f (c.map a.eval)) w:=by
    simp[execOp,A,resolve,Deferred.ofValue,Act.eval,invoke,callFunc,B,y,z]
  unfold Oper.wp;rw[n,Oper.upon_enter];have l:=(dw.le (m.oi c.toList) L).Ij R;have X: ∀b,own K x s.H b->b<w.heap.size:=by
    rintro b (Z|⟨id,_,q⟩)
    · exact l9 (m.kz b Z).1 m.ext.size
    · exact(m.fresh id b q).2
  have bN:=h w (own K x s.H) _ m.BD X l;have g:(List.map a.eval c.toList).toArray=c.map a.eval:=by rw[<-vA]
  rw[g] at bN;refine bN.mono ?_;rintro e j ⟨u,rfl,p,t⟩;exact W x _ j ((m.grow p).put o.dst F (t.any λ_ h=>h))
def ts:List V->Nat->(Nat->V)
  | [],_=>pX
  |v::a,i=>bc (ts a (i+1)) i v
theorem DQ{T:Map}{w:World}{X:Nat->Prop}: ∀(a:List V) (c:List Value) (i:Nat),dw T w X a c-> ∀j,bp T w X (ts a i (i+j)) (c.getD j undef)
  | [],_,_,_,_=> .c9 _
  |v::a,u::c,i,h,0=>by
    rw[rl,ts,cc];exact h.1
  |v::a,u::c,i,h,j+1=>by
    rw[ts,cb _ _ _ _ O,show i+(j+1)=(i+1)+j by omega];simpa using DQ a c (i+1) h.2 j
  |_::_,[],_,h,_=>h.elim
theorem dw.length: ∀{β:Map} {w:World} {X:Nat->Prop} {a:List V} {c:List Value},dw β w X a c->c.length=a.length
  |_,_,_,[],[],_=>rfl
  |_,_,_,_::_,_::_,h=>by simp[dw.length h.2]
  |_,_,_,[],_::_,h=>h.elim
  |_,_,_,_::_,[],h=>h.elim
def Ctx.pure(P:Program)(G:fq)(w:World)(X:Nat->Prop)(nt:Nat):Ctx:={P,G,w0:=w,X,dL:=0,gM:=hf,nt}
def start(args:List V):S:={t:=ts args 0,H:=oS,u:=gG}
theorem Rel.start{G:fq}{nt:Nat}{args:List V}{a:List Value}(e:G.ok w)(k: ∀b,X b->b<w.heap.size)(h:dw hf w X args a)(n:a.length<=nt):
    Rel (Ctx.pure P G w X nt) hf (Lift.start args) {tmps:=a.toArray++Array.replicate (nt-a.toArray.size) undef,defers:=[]} w:=by
  have d: ∀b,¬(Ctx.pure P G w X nt).M b:=by rintro b ⟨id,h,_⟩;simp[Ctx.pure] at h
  refine {ext:=Ext.refl _ _,qH:=e,qY:=λb h=>bz h (d b),kz:=λb h=>⟨k b h,d b⟩,base:=kB.refl _ _ _,j1:=Shaped.refl _ _,low:=λ_ h=>bz h (p4 _),eh:=λ_ _=>rfl,
           eQ:=λ_ _ _ h=>h,uN:=λ_ _ _ h=>(Fi h).elim,inj:=λ_ _ _ h=>(Fi h).elim,fresh:=λ_ _ h=>(Fi h).elim,heap:=λ_ _ h=>by simp[Lift.start,oS] at h,dB:= ?_,nt:= ?_,defers:=rfl}
  · intro i;have c:=DQ args a 0 h i;rw[eg] at c;have l:(a.toArray++Array.replicate (nt-a.toArray.size) undef).getD i undef=a.getD i undef:=by
      simp only[Array.getD_eq_getD_getElem?,List.getD_eq_getElem?_getD,Array.getElem?_append]
      grind
    simp only[l];refine c.mono (Ext.refl _ _) ?_ (dS.refl _) (Shaped.refl _ _);rintro b _ (m|⟨id,c,_⟩)
    · exact m
    · simp[Lift.start,oS] at c
  · simp[Ctx.pure];omega
end rules
end
set_option linter.unusedVariables false
set_option linter.unusedSimpArgs false
section
def cj(P:Program)(t:TypeId)(u:TypeDesc)(z:Value)(c a:Nat):Prop:=
 P.underlying t=aa u/\ ∃i,P.info? t=aa i/\i.zero=aa z/\i.size=c/\i.bytes=a
variable {n b i k gen m:Nat}{a:Act}{v:V}{X:Nat->Prop}{q:Option Nat}{β:Map}
theorem cj.of{P:Program}{t:TypeId}{u:TypeDesc}{z:Value}{bytes:Nat}(h:P.underlying t=aa u)(a:(P.info? t).map (λi=>(i.zero,i.size,i.bytes))=aa (aa z,n,bytes)):cj P t u z n bytes:=by
 cases c:P.info? t with
 |none=>rw[c] at a;cases a
 |some i=>
  rw[c] at a;simp only[Option.map_some,Option.some.injEq,Prod.mk.injEq] at a;exact⟨h,i,c,a.1,a.2.1,a.2.2⟩
def kK:TypeDesc->Bool
 | .struct _=>ab
 | .array _ _=>ab
 |_=>ak
section runs
variable {P:Program}{t:TypeId}{u:TypeDesc}{z:Value}{size bytes:Nat}(w:World)
theorem cj.CF(h:cj P t u z size bytes):(isAgg t).run P w= .ok (kK u) w:=by obtain⟨a,_⟩:=h;simp only[isAgg,ff,run_underlying a,fb];cases u<;>rfl
theorem cj.run_sizeOf(h:cj P t u z size bytes):(sizeOf t).run P w= .ok size w:=by obtain⟨_,i,a,e,c,k⟩:=h;simp[sizeOf,typeInfo,a,c]
theorem cj.sR(h:cj P t u z size bytes):(zeroValue t).run P w= .ok z w:=by obtain⟨_,i,a,c,e,k⟩:=h;simp[zeroValue,typeInfo,a,c]
theorem cj.CG(h:cj P t u z size bytes)(c:kK u=ak){a:Addr}{v:Value}(e:w.cell? a=aa v):(loadVar t a).run P w= .ok v w:=by simp only[loadVar,ff,h.CF,fb,c];simp[e]
theorem kl(b o i:Nat):(⟨b,o,aj⟩:Addr).add i=⟨b,o+i,aj⟩:=by unfold Addr.add;split<;>simp_all
theorem cj.CH(h:cj P t u z size bytes)(a:kK u=ab){o:Nat}{f:Nat->Value}(c: ∀j,j<size->w.cell? ⟨b,o+j,aj⟩=aa (f j)):
  (loadVar t ⟨b,o,aj⟩).run P w= .ok (.agg ((fp size).map f).toArray) w:=by simp only[loadVar,ff,h.CF,h.run_sizeOf,fb,a,if_true];rw[run_loadCells w ⟨b,o,aj⟩ size f λj e=>by rw[kl];exact c j e];rfl
end runs
section nS
variable {P:Program}{H:Nat->Option E}{d:Option Tmp}{ty:TypeId}{pos:String}{af:Array Edge}{g:Option (Nat×Bool)}
variable {t:TypeId}{u:TypeDesc}{z:Value}{size bytes:Nat}
theorem rA{T:Map}{w:World}{u:Value}(h:bp T w X (.ref i n) u): ∃b,T i=aa (aa b,0)/\u= .pointer (aa ⟨b,n,aj⟩):=by cases h with|ref _ _ b a=>exact⟨b,a,rfl⟩
theorem pQ{T:Map}{w:World}{u:Value}(h:bp T w X (.cK k gen n i m) u)(a:T k=aa (q,gen)): ∃b,q=aa b/\u= .pointer (aa ⟨b,i*n+m,aj⟩):=by
 cases h with
 |cK _ _ _ _ _ b e c=>rw[c] at a;cases a;exact⟨b,rfl,rfl⟩
 |lM _ _ _ _ _ _ l g o c e=>rw[c] at a;cases a;omega
theorem l3{U:Map}{w:World}{c:TypeId}{a:List (List T)}(h:cN U w X i (.arr c gen n a)): ∃q,U i=aa (q,gen):=by
 rcases h.2 with ⟨e,_⟩|⟨b,k,e,_⟩
 ·exact⟨_,e⟩
 exact⟨_,e⟩
theorem GC{U:Map}{w:World}{a:List T}{u:Value}(h:bp U w X (.aQ a) u): ∃(b c:Nat) (f:Nat->Value),u= .pointer (aa ⟨b,c,aj⟩)/\b<w.heap.size/\ ¬X b/\
  (∀j,j<a.length->w.cell? ⟨b,c+j,aj⟩=aa (f j))/\ ∀(j:Nat) (x:T),a[j]? =aa x->dh w X x (f j):=by cases h with|aQ _ b c f e i k l=>exact⟨b,c,f,rfl,e,i,k,l⟩
theorem aaP(x:Operand)(i a:Nat)(k:List V)(c:V)(p:cj P t u z size bytes)(q:kK u=ak)(r:H i=aa (.cells k))(m:k[a]? =aa c):
  b9 P H ⟨d,.load t x,ty,pos,af,g⟩ [.ref i a] c:=by
 intro Q w X R y A;obtain⟨b,B,C⟩:=rA A.1;obtain⟨W,l,F,n,G,o,L⟩:=y i _ r;rw[B] at n;cases n;have h:a<k.length:=(bX.1 m).1;have e:w.cell? ⟨b,a,aj⟩=aa l[a]:=by simp[World.cell?,G,o,h]
 refine⟨l[a],?_,L a c l[a] m (by simp[o,h])⟩;simp[execOp,C,Instr.loadAt,Instr.sureAddr,p.CG w q e]
theorem aaO(x:Operand)(k a:Nat)(h:List V)(n:cj P t u z size bytes)(o:kK u=ab)(p:H k=aa (.cells h))(q:cY (a+size) h.length=ab):
  b9 P H ⟨d,.load t x,ty,pos,af,g⟩ [.ref k a] (.agg ((h.drop a).take size)):=by
 intro Q w X R r y;obtain⟨b,A,B⟩:=rA y.1;obtain⟨W,l,C,m,F,Z,f⟩:=r k _ p;rw[A] at m;cases m;have G:a+size<=h.length:=eG q;have e: ∀j,j<size->w.cell? ⟨b,a+j,aj⟩=aa (l.getD (a+j) undef):=λj D=>by
  have:a+j<l.size:=O
  simp[World.cell?,F,this]
 refine⟨_,by simp[execOp,B,Instr.loadAt,Instr.sureAddr,n.CH w o e];rfl,?_⟩;refine .agg _ _ bZ (λi c v L I=>?_)
 grind
theorem Wf(x:Operand)(c:T)(r:List T)(a:cj P t u z size bytes)(e:kK u=ak):b9 P H ⟨d,.load t x,ty,pos,af,g⟩ [.aQ (c::r)] (.t c):=by intro o w X p q h;obtain⟨b,i,f,k,y,A,l,m⟩:=GC h.1;have n:=l 0 aW;refine⟨f 0,?_,.t _ _ (m 0 c aW)⟩;simp only[execOp,k,Instr.loadAt,Instr.sureAddr,ff,Sem.run_pure,fb];rw[a.CG w e (v:=f 0) (by simpa using n)];rfl
theorem We(x:Operand)(h:List T)(n:cj P t u z size bytes)(o:kK u=ab)(B:size<=h.length):
  b9 P H ⟨d,.load t x,ty,pos,af,g⟩ [.aQ h] (.agg ((h.take size).map .t)):=by
 intro C w X F G p;obtain⟨b,q,f,r,L,Q,k,y⟩:=GC p.1;refine⟨.agg ((fp size).map f).toArray,?_,.agg _ _ bZ λi c v a l=>?_⟩
 ·simp only[execOp,r,Instr.loadAt,Instr.sureAddr,ff,Sem.run_pure,fb];rw[n.CH w o (f:=f) λj R=>k j O];rfl
 have m:i<size:=by
  have:=(bX.1 a).1;simp at this;omega
 rw[ek,List.getElem?_take_of_lt m] at a;simp only[List.getElem?_toArray,List.getElem?_map,List.getElem?_range m,Option.map_some,Option.some.injEq] at l;cases e:h[i]? with
 |none=>rw[e] at a;simp at a
 |some A=>rw[e] at a;simp at a;rw[<-a,<-l];exact .t _ _ (y i A e)
theorem UJ(x:Operand)(m gen i a:Nat)(o:TypeId)(sz:Nat)(e:List (List T))(h:List T)(c:T)(G:cj P t u z size bytes)(L:kK u=ak)(B:H m=aa (.arr o gen sz e))(n:e[i]? =aa h)(Q:h[a]? =aa c):
  b9 P H ⟨d,.load t x,ty,pos,af,g⟩ [.cK m gen sz i a] (.t c):=by
 intro j w X v C R;obtain⟨q,F⟩:=l3 (C m _ B);obtain⟨b,p,W⟩:=pQ R.1 F;subst p;have a7:=F;rcases(C m _ B).2 with ⟨r,y⟩|⟨D,A,r,y,I,M,Z⟩
 ·rw[y] at n;simp at n
 rw[a7] at r;cases r;have f:i<e.length:=(bX.1 n).1;have N:a<sz:=by
  grind
 have l:i*sz+a<A.size:=by
  have:(i+1)*sz<=e.length*sz:=eL _ f
  grind
 have k:w.cell? ⟨b,i*sz+a,aj⟩=aa A[i*sz+a]:=by simp[World.cell?,y,l]
 refine⟨A[i*sz+a],?_,.t _ _ (Z i a h c _ n Q (by simp[l]))⟩;simp[execOp,W,Instr.loadAt,Instr.sureAddr,G.CG w L k]
theorem UT(x:Operand)(o c k a:Nat)(p:Array Field)(e:Field)(q:TypeDesc)(r:Value)(h l:Nat)(y:P.underlying t=aa (.struct p))(A:p[k]? =aa e)(B:e.offset=a)(m:cj P e.type q r h l)(n:(h==0)=ak):
  b9 P H ⟨d,.fieldAddr t x k,ty,pos,af,g⟩ [.ref o c] (.ref o (c+a)):=by
 intro L w X Q R C;obtain⟨b,F,G⟩:=rA C.1;have i:h≠0:=by simpa using n
 refine⟨.pointer (aa ⟨b,c+a,aj⟩),?_,.ref _ _ _ F⟩;simp[execOp,G,Instr.fieldAt,run_underlying y,A,Instr.sureAddr,fieldPlace,m.run_sizeOf,i,kl,B]
theorem Wi(x:Operand)(r:List T)(k a:Nat)(y:Array Field)(e:Field)(A:TypeDesc)(B:Value)(i n:Nat)(C:P.underlying t=aa (.struct y))(F:y[k]? =aa e)(G:e.offset=a)(o:cj P e.type A B i n)(p:(i==0)=ak):
  b9 P H ⟨d,.fieldAddr t x k,ty,pos,af,g⟩ [.aQ r] (.aQ (r.drop a)):=by
 intro D w X I M L;have l:i≠0:=by simpa using p
 obtain⟨b,m,f,Q,R,W,q,Z⟩:=GC L.1;refine⟨.pointer (aa ⟨b,m+a,aj⟩),?_,.aQ _ b (m+a) (λj=>f (a+j)) R W (λj v=>?_) λj c h=>?_⟩
 ·simp[execOp,Q,Instr.fieldAt,run_underlying C,F,Instr.sureAddr,fieldPlace,o.run_sizeOf,l,kl,G]
 ·rw[rj];exact q (a+j) (by simp at v;omega)
 exact Z (a+j) c (by simpa using h)
theorem UL(x:Operand)(l gen o i c k a:Nat)(C:Array Field)(e:Field)(Q:TypeDesc)(R:Value)(h p:Nat)(W:P.underlying t=aa (.struct C))(Z:C[k]? =aa e)(f:e.offset=a)(r:cj P e.type Q R h p)(y:(h==0)=ak)
  (A:TypeId) (m:List (List T)) (F:H l=aa (.arr A gen o m)):b9 P H ⟨d,.fieldAddr t x k,ty,pos,af,g⟩ [.cK l gen o i c] (.cK l gen o i (c+a)):=by
 intro D w X I G j;obtain⟨q,L⟩:=l3 (G l _ F);obtain⟨b,B,v⟩:=pQ j.1 L;subst B;have a7:=L;have n:h≠0:=by simpa using y
 refine⟨.pointer (aa ⟨b,i*o+(c+a),aj⟩),?_,.cK _ _ _ _ _ _ (G l _ F).1 a7⟩;simp[execOp,v,Instr.fieldAt,run_underlying W,Z,Instr.sureAddr,fieldPlace,r.run_sizeOf,n,kl,f,Nat.add_assoc]
theorem Wh(x y:Operand)(e:TypeId)(k:List (List T))(l:List T)(n:Nat)(C:P.underlying t=aa (.slice e))(F:cj P e u z size bytes)(o:k[n]? =aa l)(G:l.length=size):
  b9 P H ⟨d,.indexAddr t x y,ty,pos,af,g⟩ [.t (.bD k),.t (.int .i64 (n:Nat))] (.aQ l):=by
 intro M w X L N A;have cG:=dI A.2.1;have Q:n<k.length:=(bX.1 o).1;cases A.1 with
 |t _ _ h=>
  generalize R:L x=v at h;cases h with
  |gn a p=>simp at o
  |bD _ b m i p f W Z B q D r=>
   have I:i=size:=by rw[<-G];exact(q l (bJ o)).symm
   subst I;refine⟨.pointer (aa ⟨b,m+n*i,aj⟩),?_,.aQ _ b (m+n*i) (λj=>f n j) W Z (λj U=>D n j Q O) λj c h=>r n j l c o h⟩;simp[execOp,R,cG,Instr.indexAt,asIntOf,run_underlying C,F.run_sizeOf,kl];intro h;omega
theorem fY{T:Map}{w:World}{L:Nat}{u:Value}(h:bp T w X (.bn L gen i m k) u)(c:T L=aa (q,gen)):
  (∃a b n ty,u= .slice (aa ⟨b,m*i,aj⟩) k a/\q=aa b/\b<w.heap.size/\w.shape? b=aa (ty,n)/\(m+a)*i=n/\k<=a/\a<=maxLen)\/
  (q=aj/\m=0/\k=0/\u= .slice aj 0 0):=by
 cases h with
 |bn _ _ _ _ _ a b n ty l e o p r x y=>rw[e] at c;cases c;exact .inl ⟨a,b,n,ty,rfl,rfl,o,p,r,x,y⟩
 |iO _ _ _ l e=>rw[e] at c;cases c;exact .inr ⟨rfl,rfl,rfl,rfl⟩
 |ln _ _ _ _ _ _ A g B e l=>rw[e] at c;cases c;omega
theorem UR(x y:Operand)(e:TypeId)(c gen a h n:Nat)(l:TypeId)(i:List (List T))(r:H c=aa (.arr l gen size i))(F:P.underlying t=aa (.slice e))(G:cj P e u z size bytes)(Z:n<h):
  b9 P H ⟨d,.indexAddr t x y,ty,pos,af,g⟩ [.bn c gen size a h,.t (.int .i64 (n:Nat))] (.cK c gen size (a+n) 0):=by
 intro f w X L A o;have cG:=dI o.2.1;generalize B:L x=v at o;have k:=o.1;simp only[B] at k;obtain⟨q,C⟩:=l3 (A c _ r);rcases fY k C with ⟨Q,b,m,R,rfl,p,j,D,W,I,M⟩|⟨_,_,N,_⟩
 ·subst p;refine⟨.pointer (aa ⟨b,(a+n)*size+0,aj⟩),?_,.cK _ _ _ _ _ b (A c _ r).1 C⟩;simp[execOp,B,cG,Instr.indexAt,asIntOf,run_underlying F,G.run_sizeOf,kl,Nat.add_mul]
  grind
 omega
end nS
def V.one:V->Bool
 | .t _=>ab
 | .ref _ _=>ab
 | .aQ _=>ab
 | .bn _ _ _ _ _=>ab
 | .cK _ _ _ _ _=>ab
 | .fn _ _=>ab
 | .agg _=>ak
 | .bQ _=>ak
 | .c9=>ak
def nG:List V->Bool
 | []=>ab
 |v::a=>v.one&&nG a
theorem EG: ∀{c:List V} {i:Nat} {v:V},nG c=ab->c[i]? =aa v->v.one=ab
 |v::c,0,_,h,a=>by simp at a;subst a;simp[nG] at h;exact h.1
 |v::c,i+1,_,h,a=>by simp at a;simp[nG] at h;exact EG h.2 a
 | [],_,_,_,a=>by simp at a
def V.cs:V->List V
 | .agg cs=>cs
 |v=>[v]
def V.val:V->Bool
 | .agg _=>ab
 |v=>v.one
theorem bp.jZ{w:World}{u:Value}(h:bp β w X v u)(a:v.one=ab):u.oneCell'=ab:=by
 cases h with
 |t x v h=>cases h<;>rfl
 |agg=>cases a
 |bQ=>cases a
 |ref=>rfl
 |aQ=>rfl
 |bn=>rfl
 |iO=>rfl
 |ln=>assumption
 |cK=>rfl
 |lM=>assumption
 |fn=>rfl
 |c9=>cases a
theorem vv{u:Value}(h:u.oneCell'=ab):u.cells= #[u]:=by cases u<;>first|rfl|cases h
theorem bp.cells{w:World}{u:Value}(h:bp β w X v u)(m:v.val=ab):
  u.cells.size=v.cs.length/\ ∀(i:Nat) c x,v.cs[i]? =aa c->u.cells[i]? =aa x->bp β w X c x:=by
 cases v with
 |agg cs=>
  cases h with|agg _ p o h=>exact⟨o,h⟩
 |bQ=>cases m
 |c9=>cases m
 |t x=>
  have:=vv (h.jZ rfl);rw[this];exact⟨rfl,λi c y k l=>by cases i with|zero=>simp[V.cs] at k l;subst k;subst l;exact h|succ n=>simp[V.cs] at k⟩
 |ref a b=>
  have:=vv (h.jZ rfl);rw[this];exact⟨rfl,λi c y k l=>by cases i with|zero=>simp[V.cs] at k l;subst k;subst l;exact h|succ n=>simp[V.cs] at k⟩
 |aQ a=>
  have:=vv (h.jZ rfl);rw[this];exact⟨rfl,λi c y k l=>by cases i with|zero=>simp[V.cs] at k l;subst k;subst l;exact h|succ n=>simp[V.cs] at k⟩
 |bn a b c d e=>
  have:=vv (h.jZ rfl);rw[this];exact⟨rfl,λi c y k l=>by cases i with|zero=>simp[V.cs] at k l;subst k;subst l;exact h|succ n=>simp[V.cs] at k⟩
 |cK a b c d e=>
  have:=vv (h.jZ rfl);rw[this];exact⟨rfl,λi c y k l=>by cases i with|zero=>simp[V.cs] at k l;subst k;subst l;exact h|succ n=>simp[V.cs] at k⟩
 |fn a b=>
  have:=vv (h.jZ rfl);rw[this];exact⟨rfl,λi c y k l=>by cases i with|zero=>simp[V.cs] at k l;subst k;subst l;exact h|succ n=>simp[V.cs] at k⟩
def S.new(s:S)(k:Nat)(e:E):S:={t:=s.t,H:=bc s.H k (aa e),u:=bc s.u k ab}
theorem Rel.Ii{K:Ctx}{s:S}{w:World}(h:Rel K β s a w)(k y:Nat)(W:s.u k=ak)(Z:Array Value)(f:TypeId)(e:E)
  (T: ∀(p:Map) (M:Nat->Prop) (j:World),j=w.alloc (.cells Z f)->p k=aa (aa w.heap.size,y)->(∀v u,bp β w (own K β s.H) v u->bp p j M v u)->(∀b,¬p.n k b)->cN p j M k e):
  Rel K (β.put k (aa (aa w.heap.size,y))) (s.new k e) a (w.alloc (.cells Z f)):=by
 have l: ∀X,Ext X w (w.alloc (.cells Z f)):=λX=>Ext.alloc X w _;have A:β k=aj:=h.eh _ W;have q: ∀id x,β id=aa x->β.put k (aa (aa w.heap.size,y)) id=aa x:=λid x G=>by
  rw[fz _ _ _ _ (by intro e;subst e;rw[A] at G;cases G)];exact G
 have L:=dS.of q;have m: ∀id b,At (β.put k (aa (aa w.heap.size,y))) id b->(id=k/\b=w.heap.size)\/(id≠k/\At β id b):=λid b a7=>by
  by_cases B:id=k
  ·subst B;rcases a7 with ⟨g,a7⟩|a7
   ·rw[lW] at a7;cases a7;exact .inl ⟨rfl,rfl⟩
   exact bz a7 (h.eQ _ _ W)
  refine .inr ⟨B,?_⟩;rcases a7 with ⟨g,a7⟩|a7
  ·rw[fz _ _ _ _ B] at a7;exact .inl ⟨g,a7⟩
  exact .inr a7
 have r: ∀b,b<w.heap.size->own K (β.put k (aa (aa w.heap.size,y))) (bc s.H k (aa e)) b->own K β s.H b:=by
  rintro b U (G|⟨id,F,Q⟩)
  ·exact .inl G
  rcases m id b Q with ⟨rfl,rfl⟩|⟨D,C⟩
  ·omega
  rw[cb _ _ _ _ D] at F;exact .inr ⟨id,F,C⟩
 have R: ∀v u,bp β w (own K β s.H) v u->bp (β.put k (aa (aa w.heap.size,y))) (w.alloc (.cells Z f)) (own K (β.put k (aa (aa w.heap.size,y))) (bc s.H k (aa e))) v u:=
  λv u V=>V.mono (l _) r L (i8 (l _))
 refine {ext:=h.ext.trans ((l λ_=>False).weaken λ_ _ h=>h.elim),qH:=h.qH,qY:=h.qY,kz:=h.kz,uN:=h.uN,base:= ?_,j1:=h.j1.ext h.ext.size (l _),low:= ?_,eh:= ?_,eQ:= ?_,inj:= ?_,fresh:= ?_,heap:= ?_,dB:=λi=>R _ _ (h.dB i),nt:=h.nt,defers:=h.defers}
 ·refine h.base.keep λid hid=>?_
  have:=h.low id hid;rw[fz _ _ _ _ (by intro e;subst e;rw[W] at this;cases this)]
 ·intro id hid;show bc s.u k ab id=ab;by_cases e:id=k
  ·subst e;exact cc _ _ _
  rw[cb _ _ _ _ e];exact h.low id hid
 ·intro id hid;have c:bc s.u k ab id=ak:=hid;by_cases e:id=k
  ·subst e;rw[cc] at c;cases c
  rw[cb _ _ _ _ e] at c;rw[fz _ _ _ _ e];exact h.eh id c
 ·intro id b hid;have c:bc s.u k ab id=ak:=hid;by_cases e:id=k
  ·subst e;rw[cc] at c;cases c
  rw[cb _ _ _ _ e] at c;exact h.eQ id b c
 ·intro id I b F Q;rcases m id b F with ⟨rfl,rfl⟩|⟨_,C⟩<;>rcases m I _ Q with ⟨rfl,e⟩|⟨_,N⟩
  ·rfl
  ·have:=(h.fresh _ _ N).2;omega
  ·subst e;have:=(h.fresh _ _ C).2;omega
  exact h.inj _ _ _ C N
 ·intro id b a7;rcases m id b a7 with ⟨rfl,rfl⟩|⟨_,C⟩
  ·exact⟨.inr h.ext.size,aW⟩
  exact⟨(h.fresh _ _ C).1,by have:=(h.fresh _ _ C).2;simp;omega⟩
 intro id e' o;have o:bc s.H k (aa e) id=aa e':=o;show bc s.u k ab id=ab/\cN _ _ (own K _ (bc s.H k (aa e))) id e';by_cases B:id=k
 ·subst B;rw[cc] at o;cases o;exact⟨cc _ _ _,T _ _ _ rfl (lW _ _ _) R λb=>h.eQ _ b W⟩
 rw[cb _ _ _ _ B] at o;obtain⟨F,Q⟩:=h.heap id e' o;exact⟨by rw[cb _ _ _ _ B];exact F,Q.mono (l _) r L (q id) (i8 (l _)) λb a7=>heap_alloc _ _ _ (h.fresh id b a7).2⟩
theorem Rel.new{K:Ctx}{s:S}{w:World}(h:Rel K β s a w)(k m:Nat)(p:s.u k=ak)(n:Array Value)(o:TypeId)(e:E)
  (q: ∀(c:Map) (l:Nat->Prop) (i:World),i=w.alloc (.cells n o)->c k=aa (aa w.heap.size,m)->(∀v u,bp β w (own K β s.H) v u->bp c i l v u)->cN c i l k e):
  Rel K (β.put k (aa (aa w.heap.size,m))) (s.new k e) a (w.alloc (.cells n o)):=
 h.Ii k m p n o e λc l i r x y _=>q c l i r x y
theorem Rel.Ck{K:Ctx}{s:S}{w:World}(h:Rel K β s a w)(k:Nat)(o:s.u k=ak)(e:Array Value)(l:TypeId)(m:List V)(p:e.size=m.length)
  (q: ∀(i:Nat) c u,m[i]? =aa c->e[i]? =aa u->bp β w (own K β s.H) c u):
  Rel K (β.put k (aa (aa w.heap.size,0))) (s.new k (.cells m)) a (w.alloc (.cells e l)):=
 h.new k 0 o e l _ λr C F x y n=>⟨w.heap.size,e,l,y,by subst x;exact lf _ _,p,λi c u A B=>n _ _ (q i c u A B)⟩
section ops
variable {K:Ctx}{s:S}{d:Option Tmp}{ty:TypeId}{pos:String}{af:Array Edge}{g:Option (Nat×Bool)}
variable {t:TypeId}{u:TypeDesc}{z:Value}{size bytes:Nat}
theorem adX(k:Nat)(e:s.u k=ak)(x:Operand)(v:V)(l: ∀i,d=aa i->df i K.nt=ab)(m:s.get x=v)(n:v.val=ab):
  dY K ⟨d,.box t x,ty,pos,af,g⟩ s ((s.new k (.cells v.cs)).put d (.ref k 0)):=by
 intro r a w next Q h o
 subst m;obtain⟨p,q⟩:=(h.get x).cells n;unfold Oper.wp;have c:(execOp a.eval ⟨d,.box t x,ty,pos,af,g⟩).run K.P w= .ok (.value (.pointer (aa ⟨w.heap.size,0,aj⟩))) (w.alloc (.cells (a.eval x).cells t)):=by
  simp[execOp,Instr.box,newVar,newRow]
 rw[c];exact o _ _ _ ((h.Ck k e _ t _ p q).put d l (.ref _ _ _ (cc _ _ _)))
theorem abc(k:Nat)(e:s.u k=ak)(l: ∀i,d=aa i->df i K.nt=ab)(m:cj K.P t u z size bytes)(n:(ha z).val=ab):
  dY K ⟨d,.alloc t,ty,pos,af,g⟩ s ((s.new k (.cells (ha z).cs)).put d (.ref k 0)):=by
 intro h a w next Q o p
 obtain⟨q,r⟩:=(yq h w (own K h s.H) z).cells n;unfold Oper.wp;have c:(execOp a.eval ⟨d,.alloc t,ty,pos,af,g⟩).run K.P w= .ok (.value (.pointer (aa ⟨w.heap.size,0,aj⟩))) (w.alloc (.cells z.cells t)):=by
  simp[execOp,Instr.alloc,m.sR,newVar,newRow]
 rw[c];exact p _ _ _ ((o.Ck k e _ t _ q r).put d l (.ref _ _ _ (cc _ _ _)))
def mQ(c:List V)(a:Nat)(e:List V):List V:=c.take a++e++c.drop (a+e.length)
theorem Eh{w:World}{a c:Array Value}{e:TypeId}(l:w.heap[b]? =aa (.cells a e (0,0)))(i:c.size=a.size)(k:Nat):(w.setRow b c).shape? k=w.shape? k:=by
 by_cases h:k=b
 ·subst h;unfold World.shape?;rw[setRow_heap _ _ _ _ _ _ l,l];simp[i]
 exact xY (setRow_other _ _ _ _ h)
theorem Rel.setRow{K:Ctx}{s:S}{w:World}(h:Rel K β s a w)(m b:Nat)(Q:At β m b)(y:Array Value)(D:TypeId)(R:w.heap[b]? =aa (.cells y D (0,0)))(q:Array Value)(A:q.size=y.size)(e:E)(W:s.H m≠aj)
  (I:cN β (w.setRow b q) (own K β s.H) m e):Rel K β {s with H:=bc s.H m (aa e)} a (w.setRow b q):=by
 have r:own K β s.H b:= .inr ⟨m,W,Q⟩;have p:Ext (own K β s.H) w (w.setRow b q):=⟨rfl,rfl,rfl,aW,λk _ F=>setRow_other _ _ _ _ λe=>F (e▸r)⟩
 have B:Shaped β w (w.setRow b q):=by
  intro l _;by_cases C:l=b
  ·subst C;unfold World.shape?;rw[setRow_heap _ _ _ _ _ _ R,R];simp[A]
  exact xY (setRow_other _ _ _ _ C)
 have o: ∀l,own K β (bc s.H m (aa e)) l->own K β s.H l:=by
  rintro l (F|⟨c,G,L⟩)
  ·exact .inl F
  by_cases x:c=m
  ·subst x;exact .inr ⟨c,W,L⟩
  rw[cb _ _ _ _ x] at G;exact .inr ⟨c,G,L⟩
 have X: ∀v u,bp β w (own K β s.H) v u->bp β (w.setRow b q) (own K β (bc s.H m (aa e))) v u:=λv u N=>N.mono p (λl _=>o l) (dS.refl _) B;have V:K.M b\/K.w0.heap.size<=b:=(h.fresh m b Q).1;refine {h with ext:=h.ext.trans' ⟨rfl,rfl,rfl,aW,λk hk F=>setRow_other _ _ _ _ ?_⟩,j1:=λl T=>(Eh R A l).trans (h.j1 l T),fresh:= ?_,heap:= ?_,dB:=λi=>X _ _ (h.dB i)}
 ·intro e
  grind
 ·intro c l f;exact⟨(h.fresh c l f).1,by have:=(h.fresh c l f).2;simpa using this⟩
 intro c e' n;have n:bc s.H m (aa e) c=aa e':=n;show s.u c=ab/\cN β (w.setRow b q) (own K β (bc s.H m (aa e))) c e';by_cases x:c=m
 ·subst x;rw[cc] at n;cases n;cases j:s.H c with
  |none=>exact bz j W
  |some U=>
   exact⟨(h.heap c U j).1,I.mono (Ext.refl _ _) (λl _=>o l) (dS.refl _) (λ_ h=>h) (Shaped.refl _ _) λ_ _=>rfl⟩
 rw[cb _ _ _ _ x] at n;obtain⟨G,L⟩:=h.heap c e' n;exact⟨G,L.mono p (λl _=>o l) (dS.refl _) (λ_ h=>h) B λl Z=>setRow_other _ _ _ _ λe=>x (h.inj c m l Z (e▸Q))⟩
theorem KN(e k:List V)(a:Nat)(h:a+k.length<=e.length)(l m:List Value)(p:l.length=e.length)(q:m.length=k.length){R:V->Value->Prop}
  (r: ∀(i:Nat) c u,e[i]? =aa c->l[i]? =aa u->R c u) (x: ∀(i:Nat) c u,k[i]? =aa c->m[i]? =aa u->R c u):
  ∀(i:Nat) c u,(mQ e a k)[i]? =aa c->(l.take a++m++l.drop (a+m.length))[i]? =aa u->R c u:=by
 intro i c u o n;simp only[mQ,List.getElem?_append,rz,List.length_take,List.getElem?_take,List.getElem?_drop] at o n
 grind
theorem Jd{P:Program}(h:cj P t u z size bytes)(w:World)(b o:Nat)(a:Array Value)(c:TypeId)(v:Value)(i:w.heap[b]? =aa (.cells a c (0,0)))
  (e:v.cells.size=size) (l:o+size<=a.size) (k: ∀x∈v.cells.toList,x.oneCell'=ab):
  (storeVar t ⟨b,o,aj⟩ v).run P w= .ok () (w.setRow b (a.toList.take o++v.cells.toList++a.toList.drop (o+v.cells.toList.length)).toArray):=by
 have:=run_storeCells_at P b o c v.cells.toList 0 a w i (by simp[e];omega) k;simp only[storeVar,ff,h.run_sizeOf,fb,e,ne_eq,not_true,if_false]
 grind
theorem aba(x y:Operand)(r l:Nat)(A:List V)(v:V)(j:s.get x= .ref r l)(hy:s.get y=v)(D:s.H r=aa (.cells A))(gF:cj K.P t u z size bytes)
  (I:v.val=ab) (ew:nG v.cs=ab) (hs:b4 v.cs.length size=ab) (cC:cY (l+size) A.length=ab):
  dY K ⟨aj,.store t x y,ty,pos,af,g⟩ s {s with H:=bc s.H r (aa (.cells (mQ A l v.cs)))}:=by
 intro B a w next Q Z hk
 subst hy;have C:=Z.get x;rw[j] at C;obtain⟨b,f,M⟩:=rA C;obtain⟨hF,m,o,h1,F,h3,h4⟩:=(Z.heap r _ D).2;rw[f] at h1;cases h1;obtain⟨N,c2⟩:=(Z.get y).cells I;have T:(a.eval y).cells.size=size:=by rw[N];exact c4 hs
 have hle:l+size<=A.length:=eG cC;have G: ∀e∈(a.eval y).cells.toList,e.oneCell'=ab:=by
  intro e he;obtain⟨i,aP⟩:=kx.1 he;have L:(a.eval y).cells[i]? =aa e:=by simpa using aP
  have R:i<(s.get y).cs.length:=by rw[<-N];exact(kv.1 L).1
  exact(c2 i _ e (bo R) L).jZ (EG ew (bo R))
 unfold Oper.wp;have W:=Jd gF w b l m o (a.eval y) F T O G;have p:(execOp a.eval ⟨aj,.store t x y,ty,pos,af,g⟩).run K.P w= .ok .skip (w.setRow b (m.toList.take l++(a.eval y).cells.toList++m.toList.drop (l+(a.eval y).cells.toList.length)).toArray):=by
  simp only[execOp,M,Instr.storeAt,Instr.sureAddr,ff,Sem.run_pure,fb,W]
 rw[p];have n:(m.toList.take l++(a.eval y).cells.toList++m.toList.drop (l+(a.eval y).cells.toList.length)).length=m.size:=by
  grind
 refine hk B _ _ (Rel.setRow Z r b (.inl ⟨_,f⟩) m o F _ (by simpa using n) (.cells (mQ A l (s.get y).cs)) (by rw[D];simp) ?_);refine⟨b,_,o,f,setRow_heap _ _ _ _ _ _ F,?_,?_⟩
 ·simp only[List.size_toArray,n,h3];simp[mQ]
  grind
 intro i c e bN he;have U:own K B s.H b:= .inr ⟨r,by rw[D];simp,.inl ⟨_,f⟩⟩;have q: ∀v u,bp B w (own K B s.H) v u->bp B (w.setRow b (m.toList.take l++(a.eval y).cells.toList++m.toList.drop (l+(a.eval y).cells.toList.length)).toArray) (own K B s.H) v u:=by
  intro v u I;refine I.mono ⟨rfl,rfl,rfl,aW,λk _ j=>setRow_other _ _ _ _ λe=>j (e▸U)⟩ (λ_ _ h=>h) (dS.refl _) ?_;intro hF _;by_cases X:hF=b
  ·subst X;unfold World.shape?;rw[setRow_heap _ _ _ _ _ _ F,F]
   grind
  exact xY (setRow_other _ _ _ _ X)
 refine q _ _ (KN A (s.get y).cs l (by have:=c4 hs;omega) m.toList (a.eval y).cells.toList (by simpa using h3) (by simpa using N) (λi c u h5 h6=>h4 i c u h5 (by simpa using h6)) (λi c u h5 h6=>c2 i c u h5 (by simpa using h6)) i c e bN ?_)
 grind
end ops
end
section nS
variable {P:Program}{H:Nat->Option E}{d:Option Tmp}{ty:TypeId}{pos:String}{af:Array Edge}{g:Option (Nat×Bool)}
variable {t:TypeId}{u:TypeDesc}{z:Value}{size bytes:Nat}
theorem adf(x y:Operand)(t c:TypeId)(k:IntKind)(m n:Int):b9 P H ⟨d,.binOp .sub t x y c,ty,pos,af,g⟩ [.t (.int k m),.t (.int k n)] (.t (.int k (k.wrap (m-n)))):=by intro e w X h _ a;refine⟨.int k (k.wrap (m-n)),?_,.t _ _ (.int _ _)⟩;simp[execOp,dI a.1,dI a.2.1,eqGuard,binOp,Op.intArith]
theorem adl(x y:Operand)(t c:TypeId)(k:IntKind)(m n:Int):b9 P H ⟨d,.binOp .mul t x y c,ty,pos,af,g⟩ [.t (.int k m),.t (.int k n)] (.t (.int k (k.wrap (m*n)))):=by intro e w X h _ a;refine⟨.int k (k.wrap (m*n)),?_,.t _ _ (.int _ _)⟩;simp[execOp,dI a.1,dI a.2.1,eqGuard,binOp,Op.intArith]
theorem adh(x y:Operand)(t c:TypeId)(k:IntKind)(m n:Int)(h:n≠0):b9 P H ⟨d,.binOp .quo t x y c,ty,pos,af,g⟩ [.t (.int k m),.t (.int k n)] (.t (.int k (k.wrap (m.tdiv n)))):=by intro e w X i _ a;refine⟨.int k (k.wrap (m.tdiv n)),?_,.t _ _ (.int _ _)⟩;simp[execOp,dI a.1,dI a.2.1,eqGuard,binOp,Op.intDiv,h]
theorem adg(x y:Operand)(t c:TypeId)(k:IntKind)(m n:Int)(h:n≠0):b9 P H ⟨d,.binOp .rem t x y c,ty,pos,af,g⟩ [.t (.int k m),.t (.int k n)] (.t (.int k (m.tmod n))):=by intro e w X i _ a;refine⟨.int k (m.tmod n),?_,.t _ _ (.int _ _)⟩;simp[execOp,dI a.1,dI a.2.1,eqGuard,binOp,Op.intDiv,h]
theorem ads(x y:Operand)(t c:TypeId)(k:IntKind)(m n:Int):b9 P H ⟨d,.binOp .eql t x y c,ty,pos,af,g⟩ [.t (.int k m),.t (.int k n)] (.t (.bool (ah (m=n)))):=by intro e w X h _ a;refine⟨.bool (ah (m=n)),?_,.t _ _ (.bool _)⟩;simp[execOp,dI a.1,dI a.2.1,eqGuard,binOp,Op.intCmp];rfl
theorem adj(x y:Operand)(t c:TypeId)(k:IntKind)(m n:Int):b9 P H ⟨d,.binOp .neq t x y c,ty,pos,af,g⟩ [.t (.int k m),.t (.int k n)] (.t (.bool (!decide (m=n)))):=by intro e w X h _ a;refine⟨.bool (!decide (m=n)),?_,.t _ _ (.bool _)⟩;simp[execOp,dI a.1,dI a.2.1,eqGuard,binOp,Op.intCmp];rfl
theorem ado(x y:Operand)(t c:TypeId)(k:IntKind)(m n:Int):b9 P H ⟨d,.binOp .lss t x y c,ty,pos,af,g⟩ [.t (.int k m),.t (.int k n)] (.t (.bool (ah (m<n)))):=by intro e w X h _ a;refine⟨.bool (ah (m<n)),?_,.t _ _ (.bool _)⟩;simp[execOp,dI a.1,dI a.2.1,eqGuard,binOp,Op.intCmp]
theorem adp(x y:Operand)(t c:TypeId)(k:IntKind)(m n:Int):b9 P H ⟨d,.binOp .leq t x y c,ty,pos,af,g⟩ [.t (.int k m),.t (.int k n)] (.t (.bool (ah (m<=n)))):=by intro e w X h _ a;refine⟨.bool (ah (m<=n)),?_,.t _ _ (.bool _)⟩;simp[execOp,dI a.1,dI a.2.1,eqGuard,binOp,Op.intCmp]
theorem adq(x y:Operand)(t c:TypeId)(k:IntKind)(m n:Int):b9 P H ⟨d,.binOp .gtr t x y c,ty,pos,af,g⟩ [.t (.int k m),.t (.int k n)] (.t (.bool (ah (n<m)))):=by intro e w X h _ a;refine⟨.bool (ah (n<m)),?_,.t _ _ (.bool _)⟩;simp[execOp,dI a.1,dI a.2.1,eqGuard,binOp,Op.intCmp]
theorem adr(x y:Operand)(t c:TypeId)(k:IntKind)(m n:Int):b9 P H ⟨d,.binOp .geq t x y c,ty,pos,af,g⟩ [.t (.int k m),.t (.int k n)] (.t (.bool (ah (n<=m)))):=by intro e w X h _ a;refine⟨.bool (ah (n<=m)),?_,.t _ _ (.bool _)⟩;simp[execOp,dI a.1,dI a.2.1,eqGuard,binOp,Op.intCmp]
theorem adt(x y:Operand)(t c:TypeId)(m n:List UInt8)(h:(m.length:Int)+n.length<=9223372036854775807):b9 P H ⟨d,.binOp .add t x y c,ty,pos,af,g⟩ [.t (.str m),.t (.str n)] (.t (.str (m++n))):=by
 intro l w X o _ a;refine⟨.string ⟨(m++n).toArray⟩,?_,.t _ _ (.str _)⟩;have e:(ByteArray.mk m.toArray).size=m.length:=by simp[ByteArray.size]
 have i:(ByteArray.mk n.toArray).size=n.length:=by simp[ByteArray.size]
 have k:(ByteArray.mk m.toArray)++(ByteArray.mk n.toArray)=ByteArray.mk (m++n).toArray:=by
  apply ByteArray.ext;simp
 simp[execOp,hJ a.1,hJ a.2.1,eqGuard,binOp,Op.stringOp,e,i,k];exact h
theorem ac1(x y:Operand)(t c:TypeId)(m n:List UInt8):b9 P H ⟨d,.binOp .eql t x y c,ty,pos,af,g⟩ [.t (.str m),.t (.str n)] (.t (.bool (ah (m=n)))):=by
 intro e w X h _ a;refine⟨.bool (ah (m=n)),?_,.t _ _ (.bool _)⟩;simp[execOp,hJ a.1,hJ a.2.1,eqGuard,binOp,Op.stringOp]
 grind
theorem acW(x y:Operand)(t c:TypeId)(m n:List UInt8):b9 P H ⟨d,.binOp .neq t x y c,ty,pos,af,g⟩ [.t (.str m),.t (.str n)] (.t (.bool (!decide (m=n)))):=by
 intro e w X h _ a;refine⟨.bool (!decide (m=n)),?_,.t _ _ (.bool _)⟩;simp[execOp,hJ a.1,hJ a.2.1,eqGuard,binOp,Op.stringOp]
 grind
theorem ac0(x y:Operand)(t c:TypeId)(m n:List UInt8):b9 P H ⟨d,.binOp .geq t x y c,ty,pos,af,g⟩ [.t (.str m),.t (.str n)] (.t (.bool (!Op.bytesLess m n))):=by intro e w X h _ a;refine⟨.bool (!Op.bytesLess m n),?_,.t _ _ (.bool _)⟩;simp[execOp,hJ a.1,hJ a.2.1,eqGuard,binOp,Op.stringOp]
theorem Zg(x y:Operand)(l:List UInt8)(n:Nat)(b:UInt8)(e:P.underlying t=aa .string)(h:l[n]? =aa b):b9 P H ⟨d,.index t x y,ty,pos,af,g⟩ [.t (.str l),.t (.int .i64 (n:Nat))] (.t (.int .u8 b.toNat)):=by
 intro k w X m _ c;refine⟨.int .u8 b.toNat,?_,.t _ _ (.int _ _)⟩;have i:(ByteArray.mk l.toArray)[n]? =aa b:=by
  have a:=(bX.1 h).1;have bR:=(bX.1 h).2;rw[getElem?_pos _ _ (by simpa[ByteArray.size] using a)];simpa[ByteArray.getElem_eq_getElem_data] using bR
 simp[execOp,hJ c.1,dI c.2.1,Instr.index,asIntOf,run_underlying e,i]
theorem adi(x:Operand)(t:TypeId)(b:Bool):b9 P H ⟨d,.unOp .not t x,ty,pos,af,g⟩ [.t (.bool b)] (.t (.bool (!b))):=by intro c w X e _ a;refine⟨.bool (!b),?_,.t _ _ (.bool _)⟩;simp[execOp,nu a.1,Op.unary]
theorem SX(w:World)(n:Nat)(a b:Bool)(c:P.underlying t=aa .bool):(Op.equalIn (n+1) t (.bool a) (.bool b)).run P w= .ok (a==b) w:=by simp[Op.equalIn,run_underlying c]
theorem Jp(w:World)(a b:Bool)(c:P.underlying t=aa .bool):(Op.equal t (.bool a) (.bool b)).run P w= .ok (a==b) w:=SX w 9999 a b c
theorem Xi(a b:Bool):binOp .eql t (.bool a) (.bool b)=(do pure (.bool (<-Op.equal t (.bool a) (.bool b)))):=rfl
theorem Xh(a b:Bool):binOp .neq t (.bool a) (.bool b)=(do pure (.bool (!(<-Op.equal t (.bool a) (.bool b))))):=rfl
theorem ac8(x y:Operand)(c:TypeId)(m n:Bool)(e:P.underlying t=aa .bool):b9 P H ⟨d,.binOp .eql t x y c,ty,pos,af,g⟩ [.t (.bool m),.t (.bool n)] (.t (.bool (m==n))):=by intro h w X i _ a;refine⟨.bool (m==n),?_,.t _ _ (.bool _)⟩;simp[execOp,nu a.1,nu a.2.1,eqGuard,Xi,Jp w m n e]
theorem ac7(x y:Operand)(c:TypeId)(m n:Bool)(e:P.underlying t=aa .bool):b9 P H ⟨d,.binOp .neq t x y c,ty,pos,af,g⟩ [.t (.bool m),.t (.bool n)] (.t (.bool (!(m==n)))):=by intro h w X i _ a;refine⟨.bool (!(m==n)),?_,.t _ _ (.bool _)⟩;simp[execOp,nu a.1,nu a.2.1,eqGuard,Xh,Jp w m n e]
theorem OD(x:Operand)(a c:TypeId)(k e:IntKind)(h:TypeDesc)(n:Int)(i:P.underlying a=aa h)(l:P.underlying c=aa (.int e)):b9 P H ⟨d,.convert a c x,ty,pos,af,g⟩ [.t (.int k n)] (.t (.int e (e.wrap n))):=by intro o w X p _ m;refine⟨.int e (e.wrap n),?_,.t _ _ (.int _ _)⟩;simp only[execOp,dI m.1,convert,ff,run_underlying i,run_underlying l,fb];cases h<;>simp[Conv.intToInt]
theorem XO(x:Operand)(l:List UInt8)(a:P.underlying t=aa .string):b9 P H ⟨d,.call {callee:= .builtin .len,args:= #[x],argTypes:= #[t]},ty,pos,af,g⟩ [.t (.str l)] (.t (.int .i64 (l.length:Nat))):=by
 intro k w X c _ e;refine⟨.int .i64 (l.length:Nat),?_,.t _ _ (.int _ _)⟩;have h:c x= .string ⟨l.toArray⟩:=hJ e.1;have i:(ByteArray.mk l.toArray).size=l.length:=by simp[ByteArray.size]
 simp[execOp,resolve,invoke,builtin,h,Builtin.len_,run_underlying a,goInt,i]
theorem aco{U:Map}{w:World}{X:Nat->Prop}{c:List (List T)}{u:Value}(h:bp U w X (.t (.bD c)) u): ∃a cap,u= .slice a c.length cap:=by
 cases h with
 |t _ _ h=>cases h with
  |gn a cap=>exact⟨a,cap,rfl⟩
  |bD _ b e size cap=>exact⟨_,cap,rfl⟩
theorem Zi(x:Operand)(e:TypeId)(c:List (List T))(i:P.underlying t=aa (.slice e)):b9 P H ⟨d,.call {callee:= .builtin .len,args:= #[x],argTypes:= #[t]},ty,pos,af,g⟩ [.t (.bD c)] (.t (.int .i64 (c.length:Nat))):=by intro n w X k _ l;obtain⟨a,m,h⟩:=aco l.1;refine⟨.int .i64 (c.length:Nat),?_,.t _ _ (.int _ _)⟩;have h:k x=_:=h;simp[execOp,resolve,invoke,builtin,h,Builtin.len_,run_underlying i,goInt]
theorem XP(x:Operand)(e:TypeId)(n gen c i h:Nat)(r:P.underlying t=aa (.slice e))(o:TypeId)(k:List (List T))(s:H n=aa (.arr o gen c k)):b9 P H ⟨d,.call {callee:= .builtin .len,args:= #[x],argTypes:= #[t]},ty,pos,af,g⟩ [.bn n gen c i h] (.t (.int .i64 (h:Nat))):=by
 intro y w X p A B;obtain⟨a,cap,l⟩: ∃a cap,p x= .slice a h cap:=by
  have C:bp y w X (.bn n gen c i h) (p x):=B.1;obtain⟨q,F⟩:=l3 (A n _ s);rcases fY C F with ⟨cap,b,m,G,l,_⟩|⟨_,_,K,l⟩
  ·exact⟨_,_,l⟩
  exact⟨aj,0,by rw[K];exact l⟩
 refine⟨.int .i64 (h:Nat),?_,.t _ _ (.int _ _)⟩;simp[execOp,resolve,invoke,builtin,l,Builtin.len_,run_underlying r,goInt]
theorem XQ(x:Operand)(a:List V)(k:Nat)(v:V)(h:a[k]? =aa v):b9 P H ⟨d,.extract x k,ty,pos,af,g⟩ [.bQ a] v:=by
 intro m w X e _ n;have i:bp m w X (.bQ a) (e x):=n.1;generalize o:e x=y at i;cases i with
 |bQ _ c p q=>
  have l:k<c.size:=by rw[p];exact(bX.1 h).1
  refine⟨c[k],?_,q k v c[k] h (by simp[l])⟩;simp[execOp,o,Instr.extract,l]
theorem Kq(x:Operand)(v:V)(a:(match v with| .ref _ _=>ab| .aQ _=>ab|_=>ak)=ab):b9 P H ⟨d,.nilCheck x,ty,pos,af,g⟩ [v] v:=by
 intro i w X c _ k;have e:bp i w X v (c x):=k.1;refine⟨c x,?_,e⟩;generalize h:c x=y at e;cases e with
 |ref=>simp[execOp,h]
 |aQ=>simp[execOp,h]
 |cK=>cases a
 |lM=>cases a
 |ln=>cases a
 |t=>cases a
 |agg=>cases a
 |bQ=>cases a
 |bn=>cases a
 |iO=>cases a
 |fn=>cases a
 |c9=>cases a
theorem dw.dE: ∀{β:Map} {w:World} {X:Nat->Prop} {a:List V} {e:List Value},dw β w X a e->e.length=a.length/\ ∀(i:Nat) c u,a[i]? =aa c->e[i]? =aa u->bp β w X c u
 |_,_,_,[],[],_=>⟨rfl,λi c u h _=>by simp at h⟩
 |_,_,_,v::a,x::e,h=>by
  obtain⟨m,n⟩:=dw.dE h.2;refine⟨by simp[m],λi c u k l=>?_⟩;cases i with
  |zero=>simp at k l;subst k;subst l;exact h.1
  |succ i=>simp at k l;exact n i c u k l
 |_,_,_,[],_::_,h=>h.elim
 |_,_,_,_::_,[],h=>h.elim
theorem Wd(f:FuncId)(a:Array Operand)(e:List V):b9 P H ⟨d,.makeFunc (.func f) #[] a,ty,pos,af,g⟩ e (.fn f e):=by
 intro l w X k _ m;have h:dw l w X e (a.toList.map k):=by simpa[Op.operands] using m
 obtain⟨n,o⟩:=h.dE;exact⟨.func (.func f) #[] (a.map k),by simp[execOp,Instr.makeFunc],.fn f e _ (by simpa using n) λi c u p q=>o i c u p (by simpa using q)⟩
theorem adn(x y:Operand)(a:Array TypeId)(k:IntKind)(m n:Int):b9 P H ⟨d,.call {callee:= .builtin .max,args:= #[x,y],argTypes:=a},ty,pos,af,g⟩ [.t (.int k m),.t (.int k n)] (.t (.int k (max m n))):=by
 intro p w X c _ e;refine⟨.int k (max m n),?_,.t _ _ (.int _ _)⟩;have h:c x= .int k m:=dI e.1;have i:c y= .int k n:=dI e.2.1;have l:(if n>m then n else m)=max m n:=by split<;>omega
 have o: ∀w,(Builtin.max_ a ty #[.int k m,.int k n]).run P w= .ok (.int k (max m n)) w:=by
  intro w;simp only[Builtin.max_,List.foldlM,Builtin.max2,l];rfl
 simp[execOp,resolve,invoke,builtin,h,i,o]
theorem adm(x y:Operand)(a:Array TypeId)(k:IntKind)(m n:Int):b9 P H ⟨d,.call {callee:= .builtin .min,args:= #[x,y],argTypes:=a},ty,pos,af,g⟩ [.t (.int k m),.t (.int k n)] (.t (.int k (min m n))):=by
 intro o w X c _ e;refine⟨.int k (min m n),?_,.t _ _ (.int _ _)⟩;have h:c x= .int k m:=dI e.1;have i:c y= .int k n:=dI e.2.1;have l: ∀w,(Builtin.min_ a ty #[.int k m,.int k n]).run P w= .ok (.int k (min m n)) w:=by
  intro w;simp only[Builtin.min_,List.foldlM,Builtin.min2]
  first|rfl|(rw[show min m n=(if n<m then n else m) from by split<;>omega];rfl)
 simp[execOp,resolve,invoke,builtin,h,i,l]
end nS
section nS
variable {P:Program}{H:Nat->Option E}{d:Option Tmp}{ty:TypeId}{pos:String}{af:Array Edge}{g:Option (Nat×Bool)}
variable {t:TypeId}{u:TypeDesc}{z:Value}{size bytes:Nat}
theorem jS(w:World)(n:Nat)(y:Nat)(c:Go.BoundsCode)(h:n<=y):(Instr.sliceBound (.int .i64 (n:Nat)) y c).run P w= .ok n w:=by
 simp[Instr.sliceBound,asIntOf]
 grind
theorem EE(l:List UInt8)(a b:Nat):(ByteArray.mk l.toArray).extract a b=ByteArray.mk ((l.take b).drop a).toArray:=by
 apply ByteArray.ext;rw[ByteArray.data_extract]
 grind
theorem UN(x:Operand)(h i:Operand)(l:List UInt8)(a b:Nat)(k:P.underlying t=aa .string)(m:a<=b)(n:b<=l.length):
  b9 P H ⟨d,.slice t x (aa h) (aa i) aj,ty,pos,af,g⟩ [.t (.str l),.t (.int .i64 (a:Nat)),.t (.int .i64 (b:Nat))] (.t (.str ((l.take b).drop a))):=by
 intro s w X c _ e;refine⟨.string ⟨((l.take b).drop a).toArray⟩,?_,.t _ _ (.str _)⟩;have o:c x=_:=hJ e.1;have p:c h=_:=dI e.2.1;have q:c i=_:=dI e.2.2.1;have r:(ByteArray.mk l.toArray).size=l.length:=by simp[ByteArray.size]
 simp[execOp,o,p,q,Instr.sliceAt,Instr.slice,run_underlying k,Instr.sliceBounds,r,jS w b l.length _ n,jS w a b _ m,EE]
theorem S9(x:Operand)(c:Operand)(l:List UInt8)(a:Nat)(i:P.underlying t=aa .string)(k:a<=l.length):
  b9 P H ⟨d,.slice t x (aa c) aj aj,ty,pos,af,g⟩ [.t (.str l),.t (.int .i64 (a:Nat))] (.t (.str (l.drop a))):=by
 intro p w X e _ h;refine⟨.string ⟨(l.drop a).toArray⟩,?_,.t _ _ (.str _)⟩;have m:e x=_:=hJ h.1;have n:e c=_:=dI h.2.1;have o:(ByteArray.mk l.toArray).size=l.length:=by simp[ByteArray.size]
 simp[execOp,m,n,Instr.sliceAt,Instr.slice,run_underlying i,Instr.sliceBounds,o,jS w a l.length _ k,EE]
theorem Tg(x:Operand)(a:Operand)(l:List UInt8)(b:Nat)(h:P.underlying t=aa .string)(i:b<=l.length):
  b9 P H ⟨d,.slice t x aj (aa a) aj,ty,pos,af,g⟩ [.t (.str l),.t (.int .i64 (b:Nat))] (.t (.str (l.take b))):=by
 intro o w X c _ e;refine⟨.string ⟨(l.take b).toArray⟩,?_,.t _ _ (.str _)⟩;have k:c x=_:=hJ e.1;have m:c a=_:=dI e.2.1;have n:(ByteArray.mk l.toArray).size=l.length:=by simp[ByteArray.size]
 simp[execOp,k,m,Instr.sliceAt,Instr.slice,run_underlying h,Instr.sliceBounds,n,jS w b l.length _ i,EE]
theorem dh.part{w:World}{X:Nat->Prop}{c:List (List T)}{v:Value}(h:dh w X (.bD c) v)(a b size:Nat)(U:a<=b)(B:b<=c.length)(o: ∀m,m∈c->m.length=size):
  ∃p k,v= .slice p c.length k/\c.length<=k/\dh w X (.bD ((c.take b).drop a)) (.slice (if k=a then p else p.map (·.add (a*size))) (b-a) (k-a)):=by
 cases h with
 |gn p k=>
  have R:a=0:=by simp at B;omega
  have C:b=0:=by simp at B;omega
  subst R;subst C;exact⟨p,k,rfl,aW,by simpa using dh.gn _ _⟩
 |bD _ W F l k f C Z q r D I=>
  refine⟨_,k,rfl,q,?_⟩;have n:((c.take b).drop a).length=b-a:=bZ
  by_cases G:a=b
  ·subst G;rw[show(c.take a).drop a=[] by simp];rw[lu];exact .gn _ _
  have K:c≠[]:=by intro e;subst e;simp at B;omega
  obtain⟨Q,s⟩:=C5 c K;have L:l=size:=by rw[<-r Q s,o Q s]
  subst L;rw[aY O];simp only[Option.map_some,kl];rw[<-n];refine .bD _ W (F+a*l) l (k-a) (λi j=>f (a+i) j) C Z (by rw[n];omega) (λm y=>o m (hv (jl y))) (λi j M N=>?_) λi j m x A S=>?_
  ·have:=D (a+i) j (by rw[n] at M;omega) N;rw[fc,<-rj] at this;exact this
  refine I (a+i) j m x ?_ S;rw[il,hS] at A;split at A
  ·exact A
  cases A
theorem To(x:Operand)(l:Operand)(e:TypeId)(c:List (List T))(a:Nat)(r:P.underlying t=aa (.slice e))(s:cj P e u z size bytes)(m:a<=c.length)(k: ∀i,i∈c->i.length=size):
  b9 P H ⟨d,.slice t x (aa l) aj aj,ty,pos,af,g⟩ [.t (.bD c),.t (.int .i64 (a:Nat))] (.t (.bD (c.drop a))):=by
 intro y w X n _ o;have A:n l=_:=dI o.2.1;have B:bp y w X (.t (.bD c)) (n x):=o.1;cases B with
 |t _ _ h=>
  obtain⟨G,C,F,p,q⟩:=h.part a c.length size m (cV _) k;rw[dF] at q;refine⟨_,?_,.t _ _ q⟩;simp[execOp,F,A,Instr.sliceAt,Instr.slice,run_underlying r,Instr.sliceBounds,jS w a c.length _ m,s.run_sizeOf]
theorem Ur(x:Operand)(l:Operand)(e:TypeId)(a:List (List T))(b:Nat)(q:P.underlying t=aa (.slice e))(r:cj P e u z size bytes)(s:b<=a.length)(i: ∀c,c∈a->c.length=size):
  b9 P H ⟨d,.slice t x aj (aa l) aj,ty,pos,af,g⟩ [.t (.bD a),.t (.int .i64 (b:Nat))] (.t (.bD (a.take b))):=by
 intro y w X m _ n;have A:m l=_:=dI n.2.1;have B:bp y w X (.t (.bD a)) (m x):=n.1;cases B with
 |t _ _ h=>
  obtain⟨F,k,C,o,p⟩:=h.part 0 b size (Nat.zero_le _) s i;simp only[List.drop_zero] at p;refine⟨_,?_,.t _ _ p⟩;simp[execOp,C,A,Instr.sliceAt,Instr.slice,run_underlying q,Instr.sliceBounds,jS w b k _ O,r.run_sizeOf]
theorem Wb(x:Operand)(o p:Operand)(e:TypeId)(c:List (List T))(a b:Nat)(s:P.underlying t=aa (.slice e))(y:cj P e u z size bytes)(q:a<=b)(A:b<=c.length)(k: ∀i,i∈c->i.length=size):
  b9 P H ⟨d,.slice t x (aa o) (aa p) aj,ty,pos,af,g⟩ [.t (.bD c),.t (.int .i64 (a:Nat)),.t (.int .i64 (b:Nat))] (.t (.bD ((c.take b).drop a))):=by
 intro B w X l _ m;have C:l o=_:=dI m.2.1;have F:l p=_:=dI m.2.2.1;have G:bp B w X (.t (.bD c)) (l x):=m.1;cases G with
 |t _ _ h=>
  obtain⟨Q,n,K,r,L⟩:=h.part a b size q A k;refine⟨_,?_,.t _ _ L⟩;simp[execOp,K,C,F,Instr.sliceAt,Instr.slice,run_underlying s,Instr.sliceBounds,jS w b n _ O,jS w a b _ q,y.run_sizeOf]
end nS
theorem dh.ahy{w:World}{X:Nat->Prop}{a:List (List T)}{e:Option Addr}{n i:Nat}(h:dh w X (.bD a) (.slice e n i))(c:Nat)(p:n<=c):dh w X (.bD a) (.slice e n c):=by
 cases h with
 |gn=>exact .gn _ c
 |bD _ b k size _ f q r o l m s=>exact .bD a b k size c f q r p l m s
theorem UG{P:Program}{H:Nat->Option E}{d:Option Tmp}{ty t:TypeId}{pos:String}{af:Array Edge}{g:Option (Nat×Bool)}{u:TypeDesc}{z:Value}{n i:Nat}(x r s:Operand)(e:TypeId)(a:List (List T))(b:Nat)(C:P.underlying t=aa (.slice e))(F:cj P e u z n i)(G:b<=a.length)(l: ∀c,c∈a->c.length=n):
  b9 P H ⟨d,.slice t x aj (aa r) (aa s),ty,pos,af,g⟩ [.t (.bD a),.t (.int .i64 (b:Nat)),.t (.int .i64 (b:Nat))] (.t (.bD (a.take b))):=by
 intro K w X m _ o;have L:m r=_:=dI o.2.1;have Q:m s=_:=dI o.2.2.1;have R:bp K w X (.t (.bD a)) (m x):=o.1;cases R with
 |t _ _ h=>
  obtain⟨y,k,W,A,p⟩:=h.part 0 b n (Nat.zero_le _) G l;simp only[List.drop_zero,Nat.zero_mul,Nat.sub_zero] at p;have q:dh w X (.bD (a.take b)) (.slice (if b=0 then y else y.map (·.add 0)) b b):=by
   by_cases B:b=0
   ·subst B;exact .gn _ _
   rw[aY (show¬k=0 by omega)] at p;rw[aY B];exact p.ahy b (cV _)
  refine⟨_,?_,.t _ _ q⟩;simp[execOp,W,L,Q,Instr.sliceAt,Instr.slice,run_underlying C,Instr.sliceBounds,jS w b k _ O,jS w b b _ (Nat.le_refl _),F.run_sizeOf]
section
def qi(h:Map)(w:World)(X:Nat->Prop)(a:List V)(e:List Value):Prop:=e.length=a.length/\ ∀(i:Nat) c u,a[i]? =aa c->e[i]? =aa u->bp h w X c u
variable {w:World}{X:Nat->Prop}{o:Oper}{vals:List V}{v:V}{n:Nat}
theorem qi.mQ{T:Map}{a e:List V}{c i:List Value}(h:qi T w X a c)(k:qi T w X e i)(l:Nat)(m:l+e.length<=a.length):
  qi T w X (mQ a l e) (c.take l++i++c.drop (l+i.length)):=by refine⟨?_,KN a e l m c i h.1 k.1 h.2 k.2⟩;have n:=h.1;have eK:=k.1;simp[Lift.mQ];omega
theorem Nc: ∀(c:List Value) (k a:Nat) (cells:Array Value),a+k+c.length<=cells.size->
  (c.zipIdx k).foldl (λcs (p:Value×Nat)=>cs.setIfInBounds (a+p.2) p.1) cells=(cells.toList.take (a+k)++c++cells.toList.drop (a+k+c.length)).toArray
 | [],k,a,cells,_=>aW
 |v::c,k,a,cells,h=>by simp only[List.zipIdx_cons,List.foldl_cons];simp only[List.length_cons] at h;rw[Nc c (k+1) a _ bZ];have e:=list_seg_step cells.toList (a+k) v c bZ;simp only[Array.toList_setIfInBounds,List.length_cons];congr 1
def k5(a:Nat->Option (Nat×Nat))(h:List V):List (Nat×V)->Option (List V)
 | []=>aa h
 |(i,v)::c=>match a i with
  |none=>aj
  |some (e,size)=>bif v.val&&b4 v.cs.length size&&cY (e+size) h.length then k5 a (mQ h e v.cs) c else aj
theorem vT{β:Map}{w:World}{X:Nat->Prop}(a:Nat->Option (Nat×Nat)): ∀(is:List Nat) (k:List V) (C:List Value) (cs:List V) (l:Array Value) (n:List V),qi β w X cs l.toList->dw β w X k C->is.length=k.length->
  k5 a cs (is.zip k)=aa n-> ∃o,Instr.fill a l (is.zip C)=aa o/\qi β w X n o.toList
 | [],[],[],cs,l,n,h,_,_,m=>by simp[k5] at m;subst m;exact⟨l,rfl,h⟩
 |i::is,v::k,x::C,cs,l,n,h,A,B,m=>by
  simp only[List.zip_cons_cons,k5] at m;cases G:a i with
  |none=>rw[G] at m;cases m
  |some q=>
   obtain⟨e,size⟩:=q;rw[G] at m;simp only[] at m;cases F:(v.val&&b4 v.cs.length size&&cY (e+size) cs.length) with
   |false=>rw[F] at m;cases m
   |true=>
    rw[F,cond_true] at m;simp only[b5] at F;obtain⟨⟨b,cI⟩,Z⟩:=F;have cI:=c4 cI;have Z:=eG Z;obtain⟨L,f⟩:=A.1.cells b;have j:l.size=cs.length:=by simpa using h.1
    have Q:qi β w X v.cs x.cells.toList:=⟨by simpa using L,λi c u R W=>f i c u R (by simpa using W)⟩
    have r:=h.mQ Q e O;have y:x.cells.zipIdx.foldl (λcs (p:Value×Nat)=>cs.setIfInBounds (e+p.2) p.1) l=(l.toList.take e++x.cells.toList++l.toList.drop (e+x.cells.toList.length)).toArray:=by
     rw[<-Array.foldl_toList,Array.toList_zipIdx]
     have:=Nc x.cells.toList 0 e l (by simp[L];omega);simpa using this
    obtain⟨o,R,W⟩:=vT a is k C (mQ cs e v.cs) (l.toList.take e++x.cells.toList++l.toList.drop (e+x.cells.toList.length)).toArray n (by simpa using r) A.2 (by simpa using B) m;refine⟨o,?_,W⟩;simp only[List.zip_cons_cons,Instr.fill,G];rw[aY (by simp[L];omega),y];exact R
 | [],_::_,_,_,_,_,_,_,B,_=>by simp at B
 |_::_,[],_,_,_,_,_,_,B,_=>by simp at B
 | [],[],_::_,_,_,_,_,A,_,_=>A.elim
 |_::_,_::_,[],_,_,_,_,A,_,_=>A.elim
theorem vk(c:Operand->Value): ∀a:List (Nat×Operand),a.map (λp=>(p.1,c p.2))=(a.map (·.1)).zip ((a.map (·.2)).map c)
 | []=>rfl
 |p::a=>by simp only[List.map_cons,List.zip_cons_cons,vk c a]
def A8(P:Program)(H:Nat->Option E)(o:Oper)(a:List V)(v:V):Prop:=
 ∀(c:Map) (w:World) (X:Nat->Prop) (i:Operand->Value),(∀id e,H id=aa e->cN c w X id e)->(∀b,X b->b<w.heap.size)->
  dw c w X a (o.op.operands.toList.map i)-> ∃u h,(execOp i o).run P w= .ok (.value u) h/\Ext (λ_=>False) w h/\bp c h X v u
theorem b9.g{P:Program}{H:Nat->Option E}(h:b9 P H o vals v):A8 P H o vals v:=
 λa w X c e _ i=>let ⟨u,k,l⟩:=h a w X c e i;⟨u,w,k,Ext.refl _ _,l⟩
theorem Rel.Im{K:Ctx}{β:Map}{s:S}{a:Act}(c:Rel K β s a w): ∀b,own K β s.H b->b<w.heap.size:=by
 rintro b (e|⟨id,_,h⟩)
 ·exact l9 (c.kz b e).1 c.ext.size
 exact(c.fresh id b h).2
theorem I'{K:Ctx}{s:S}(n: ∀i,o.dst=aa i->df i K.nt=ab)(p:fG (o.op.operands.toList.map s.get) vals)(h:A8 K.P s.H o vals v):
  dY K o s (s.put o.dst v):=by
 intro l a w next Q k q
 obtain⟨u,r,c,m,x⟩:=h l w (own K l s.H) a.eval (λid e m=>(k.heap id e m).2) k.Im ((k.oi _).le p);unfold Oper.wp;rw[c];exact q l _ r ((k.grow m).put o.dst n x)
section ops
variable {P:Program}{H:Nat->Option E}{d:Option Tmp}{ty:TypeId}{pos:String}{af:Array Edge}{g:Option (Nat×Bool)}
variable {t:TypeId}{u:TypeDesc}{z:Value}{size bytes:Nat}
theorem Ad(e:Map)(w:World)(X:Nat->Prop)(us:List Value)(n:Nat)(h:us.length=n):qi e w X (dq n .c9) us:=
 ⟨by simp[h],λi c u a _=>by
  rw[te] at a;split at a
  ·cases a;exact .c9 _
  cases a⟩
theorem aaQ(k:Array (Nat×Operand))(F:Array Field)(a:Array (Nat×Nat))(h l:List V)(G:cj P t (.struct F) z size bytes)
  (L: ∀w,(F.mapM (m:=Sem) λf:Field=>do pure (f.offset,<-sizeOf f.type)).run P w= .ok a w) (Q:(ha z).val=ab) (n:b4 k.toList.length h.length=ab)
  (R:k5 (a[·]?) (ha z).cs ((k.toList.map (·.1)).zip h)=aa l):b9 P H ⟨d,.build t k,ty,pos,af,g⟩ h (.agg l):=by
 intro q w X o _ W;have r:dw q w X h ((k.toList.map (·.2)).map o):=by simpa[Op.operands] using W
 obtain⟨Z,b⟩:=(yq q w X z).cells Q;obtain⟨y,A,p⟩:=vT (β:=q) (w:=w) (X:=X) (a[·]?) (k.toList.map (·.1)) h _ (ha z).cs z.cells l ⟨by simpa using Z,λi c u A p=>b i c u A (by simpa using p)⟩ r (by simpa using c4 n) R;refine⟨.agg y,?_,.agg _ _ (by simpa using p.1) λi c u j v=>p.2 i c u j (by simpa using v)⟩;have B:=vk o k.toList;have C:=L w;simp only[execOp,Instr.build,ff,G.sR,fb,run_underlying G.1];rw[C];simp only[fb,Array.toList_map];have e:(k.toList.map λx=>match x with|(i,x)=>(i,o x))=(k.toList.map (·.1)).zip ((k.toList.map (·.2)).map o):=by rw[<-B]
 rw[e,A];rfl
theorem MK(x:Operand)(k:Nat)(C:Array Field)(h:Field)(o:List V)(v:V){a:TypeDesc}{e:Value}{m:Nat}(F:cj P t (.struct C) z size bytes)(G:C[k]? =aa h)(l:cj P h.type a e n m)
  (q:(kK a=ab/\cY (h.offset+n) o.length=ab/\v= .agg ((o.drop h.offset).take n))\/(kK a=ak/\o[h.offset]? =aa v)):b9 P H ⟨d,.field t x k,ty,pos,af,g⟩ [.agg o] v:=by
 intro b w X L _ p;have Q:bp b w X (.agg o) (L x):=p.1;generalize R:L x=y at Q;cases Q with
 |agg _ r f W=>
  rcases q with ⟨p,j,rfl⟩|⟨p,q⟩
  ·have D:=eG j;refine⟨.agg (r.extract h.offset (h.offset+n)),?_,.agg _ _ bZ λi c u B A=>?_⟩
   ·simp[execOp,R,Instr.field,run_underlying F.1,G,asAgg,part,l.CF,l.run_sizeOf,p]
   have I:i<n:=by
    have:=(bX.1 B).1;simp at this;omega
   rw[List.getElem?_take_of_lt I,il] at B;refine W (h.offset+i) c u B ?_;rw[Array.getElem?_extract] at A;split at A
   ·exact A
   cases A
  have Z:h.offset<r.size:=by rw[f];exact(bX.1 q).1
  refine⟨r[h.offset],?_,W _ v r[h.offset] q (by simp[Z])⟩;simp[execOp,R,Instr.field,run_underlying F.1,G,asAgg,part,l.CF,p,Z]
theorem Jx(n:Nat)(m:Array (Nat×Operand))(e:TypeId)(k:List V)(a:List (List T))(hu:P.underlying t=aa (.slice e))(M:cj P e u z size bytes)(A:b4 m.toList.length k.length=ab)
  (cG:b4 a.length n=ab) (o: ∀c,c∈a->c.length=size) (B:cY (n*size) 16777216=ab)
  (iK:k5 (λi=>aa (i*size,size)) (dq (n*size) .c9) ((m.toList.map (·.1)).zip k)=aa (a.flatten.map .t)):
  A8 P H ⟨d,.buildSlice t n m,ty,pos,af,g⟩ k (.t (.bD a)):=by
 intro N w X C _ iJ hc;have W:=c4 cG;have Z:dw N w X k ((m.toList.map (·.2)).map C):=by simpa[Op.operands] using hc
 have f:=vk C m.toList;obtain⟨l,p,y⟩:=vT (β:=N) (w:=w) (X:=X) (λi=>aa (i*size,size)) (m.toList.map (·.1)) k _ (dq (n*size) .c9)
  ((Array.range (n*size)).map ((if n*size=0 then #[] else z.cells)[· %(if n*size=0 then #[] else z.cells).size]!)) _ (Ad _ _ _ _ _ aW) Z (by simpa using c4 A) iK
 have F:(execOp C ⟨d,.buildSlice t n m,ty,pos,af,g⟩).run P w= .ok (.value (.slice (aa ⟨w.heap.size,0,aj⟩) n n)) (w.alloc (.cells l e)):=by
  have U:(m.toList.map λx=>match x with|(i,x)=>(i,C x))=(m.toList.map (·.1)).zip ((m.toList.map (·.2)).map C):=by rw[<-f]
  have v: ¬(n*size>2^24):=by have:=eG B;omega
  simp only[execOp,Instr.buildSlice,ff,run_underlying hu,fb,M.run_sizeOf,v,if_false,Array.toList_map];by_cases Q:n*size=0
  ·simp only[Q,if_true] at p;simp only[Q,if_true,Sem.run_pure,ff,fb];rw[U,p];rfl
  simp only[Q,if_false] at p;simp only[Q,if_false,Sem.run_pure,ff,M.sR,fb];rw[U,p];rfl
 refine⟨_,_,F,Ext.alloc _ _ _,.t _ _ ?_⟩;subst W;have q:l.size=a.flatten.length:=by
  have h:=y.1
  grind
 have D:a.flatten.length=a.length*size:=by
  rw[List.length_flatten]
  have:a.map List.length=dq a.length size:=List.eq_replicate_iff.2 ⟨aW,λb v=>by obtain⟨r,b3,rfl⟩:=eo.1 v;exact o r b3⟩;rw[this];simp
 have G: ∀(a:List (List T)),(∀c,c∈a->c.length=size)-> ∀(i j:Nat) (c:List T) (x:T),a[i]? =aa c->c[j]? =aa x->a.flatten[i*size+j]? =aa x:=by
  intro a;induction a with
  |nil=>intro _ i j c x h _;simp at h
  |cons r a my=>
   intro hs i j c x p y;have b3:=hs r aW;rw[List.flatten_cons];cases i with
   |zero=>
    simp at p;subst p
    have:=(bX.1 y).1;rw[iq,eg,iV this];exact y
   |succ i=>
    simp at p;rw[hT (by rw[b3,fc];omega)];rw[show(i+1)*size+j-r.length=i*size+j by rw[b3,fc];omega];exact my (λc h=>hs c (by simp[h])) i j c x p y
 have L: ∀i j,i<a.length->j<size->i*size+j<l.size:=by
  intro i j aP R;rw[q,D]
  have:(i+1)*size<=a.length*size:=eL _ aP
  grind
 refine .bD a w.heap.size 0 size a.length (λi j=>l.getD (i*size+j) undef) aW (λh=>by have:=iJ _ h;omega) (cV _) o (λi j aP R=>?_) λi j c x I h4=>?_
 ·rw[eg,World.cell?_alloc_new]
  have:=L i j aP R;simp[this]
 have h5:=G a o i j c x I h4;have aP:=(bX.1 I).1;have R:j<size:=by rw[<-o c (bJ I)];exact(bX.1 h4).1
 have h6:=L i j aP R;have oj:=y.2 (i*size+j) (.t x) l[i*size+j] (by rw[ek,h5];rfl) (by simp[h6]);cases oj with
 |t _ _ h=>
  have:l.getD (i*size+j) undef=l[i*size+j]:=by simp[h6]
  rw[this];exact h.mono (Ext.alloc X _ _) λ_ _ h=>h
end ops
theorem oI{i j size:Nat}(a:i<n)(c:j<size):i*size+j<n*size:=by
 have:(i+1)*size<=n*size:=eL _ a
 grind
section ops
variable {K:Ctx}{s:S}{d:Option Tmp}{ty:TypeId}{pos:String}{af:Array Edge}{g:Option (Nat×Bool)}
variable {t:TypeId}{u:TypeDesc}{z:Value}{size bytes:Nat}
theorem OI(k:Nat)(hk:s.u k=ak)(l c:Operand)(e:TypeId)(m:Nat)(n:List T)(cM: ∀i,d=aa i->df i K.nt=ab)(hu:K.P.underlying t=aa (.slice e))(he:cj K.P e u z size bytes)
  (cC:s.get l= .t (.int .i64 (m:Nat))) (bN:s.get c= .t (.int .i64 (m:Nat))) (e4:(ha z).cs=n.map .t) (G:(ha z).val=ab) (hs:b4 n.length size=ab) (p:df 0 size=ab) (hm:m*bytes<=281474976710656) (BL:m<=9223372036854775807):
  dY K ⟨d,.makeSlice t l c,ty,pos,af,g⟩ s ((s.new k (.arr e 1 size (dq m n))).put d (.bn k 1 size 0 m)):=by
 intro L a w next Q Z b
 have R:=Z.get l;rw[cC] at R;have W:=Z.get c;rw[bN] at W;have R:=dI R;have W:=dI W;have q:=c4 hs;have hp:0<size:=by simpa[Nat.blt_eq] using p
 obtain⟨c1,c2⟩:=(yq L w (own K L s.H) z).cells G;have r:z.cells.size=size:=by rw[c1,e4];simpa using q
 have A:(execOp a.eval ⟨d,.makeSlice t l c,ty,pos,af,g⟩).run K.P w= .ok (.value (.slice (aa ⟨w.heap.size,0,aj⟩) m m)) (w.alloc (.cells ((Array.range (m*size)).map (z.cells[· %z.cells.size]!)) e)):=by
  obtain⟨_,i,f,v,D,uz⟩:=he;have a7:(i.bytes:Int)*(m:Int)<=281474976710656:=by
   grind
  have:=run_make (P:=K.P) w t e i z hu f v .i64 .i64 m m O (fM _) a7 O;simp only[Int.toNat_natCast,D,madeCells] at this;simp only[execOp,R,W,ff,this,fb];rfl
 unfold Oper.wp;rw[A];have B:=Z.new k 1 hk ((Array.range (m*size)).map (z.cells[· %z.cells.size]!)) e (.arr e 1 size (dq m n)) λβ' h8 w' hw cG I=>⟨cV _,Or.inr ⟨w.heap.size,_,cG,by subst hw;exact lf _ _,?_,?_,?_⟩⟩
 ·have M:(w.alloc (.cells ((Array.range (m*size)).map (z.cells[· %z.cells.size]!)) e)).heap.size=w.heap.size+1:=World.size_alloc ..;have N:(w.alloc (.cells ((Array.range (m*size)).map (z.cells[· %z.cells.size]!)) e)).shape? w.heap.size=aa (e,m*size):=by unfold World.shape?;rw[lf];simp
  have G:bp (L.put k (aa (aa w.heap.size,1))) (w.alloc (.cells ((Array.range (m*size)).map (z.cells[· %z.cells.size]!)) e)) (own K (L.put k (aa (aa w.heap.size,1))) (s.new k (.arr e 1 size (dq m n))).H) (.bn k 1 size 0 m)
    (.slice (aa ⟨w.heap.size,0*size,aj⟩) m m):= .bn k 1 size 0 m m w.heap.size (m*size) e (cV _) (cc _ _ _) (M▸oO _) N (by rw[eg]) (cV _) (by unfold maxLen;omega)
  rw[iq] at G;exact b _ _ _ (B.put d cM G)
 ·simp
 ·intro U uB
  grind
 intro i j U x y X hj V;rw[te] at X;split at X
 ·rename_i afh;cases X;have o:j<size:=by rw[<-q];exact(bX.1 hj).1
  have C:=oI afh o;simp only[Array.getElem?_map,Array.getElem?_range,C,if_true,Option.map_some,Option.some.injEq] at V;have F:(i*size+j)%z.cells.size=j:=by rw[r,Nat.add_comm,Nat.add_mul_mod_self_right,Nat.mod_eq_of_lt o]
  rw[F] at V;have agb:z.cells[j]? =aa y:=by rw[<-V];rw[getElem!_pos _ _ O];simp[r,o]
  have h3:=c2 j (.t x) y (by rw[e4,ek,hj];rfl) agb;have h4:=I _ _ h3;cases h4 with|t _ _ h=>exact h
 cases X
def Src(w:World)(X:Nat->Prop)(c:Nat)(a:List (List T))(u:Value):Prop:=
 (u= .slice aj 0 0/\a=[])\/ ∃(b e l:Nat) (k:List Value),u= .slice (aa ⟨b,e,aj⟩) a.length l/\k.length=a.length*c/\
  (∀(j:Nat) x,k[j]? =aa x->w.cell? ⟨b,e+j,aj⟩=aa x)/\(∀x,x∈k->x.oneCell'=ab)/\
  ∀(i j:Nat) (h:List T) (x:T) (y:Value),a[i]? =aa h->h[j]? =aa x->k[i*c+j]? =aa y->dh w X x y
theorem dh.jZ{x:T}{u:Value}(h:dh w X x u):u.oneCell'=ab:=by cases h<;>rfl
theorem zK{M:Map}{size:Nat}{e:List (List T)}{u:Value}(h:bp M w X (.t (.bD e)) u)(G: ∀k,k∈e->k.length=size)(r:0<size):
  Src w X size e u\/(e=[]/\ ∃a l,u= .slice a 0 l):=by
 cases h with
 |t _ _ h=>cases h with
  |gn a l=>exact .inr ⟨rfl,a,l,rfl⟩
  |bD _ b L c l f a7 iJ v n N D=>
   by_cases A:e=[]
   ·subst A;exact .inr ⟨rfl,_,_,rfl⟩
   obtain⟨I,B⟩:=C5 e A;have Q:c=size:=by rw[<-n I B,G I B]
   subst Q;refine .inl (.inr ⟨b,L,l,(fp (e.length*c)).map λm=>f (m / c) (m%c),rfl,aW,λj x p=>?_,λx U=>?_,λi j k x y q R F=>?_⟩)
   ·rw[ek] at p;cases o:(fp (e.length*c))[j]? with
    |none=>rw[o] at p;cases p
    |some W=>
     rw[o] at p;have C:j<e.length*c:=by simpa using (bX.1 o).1
     have Z:W=j:=by rw[List.getElem?_range C] at o;cases o;rfl
     subst Z;simp at p;rw[<-p]
     have:=N (W / c) (W%c) (by rw[yD r];exact C) (Nat.mod_lt _ r);rw[rj,Nat.mul_comm,Nat.div_add_mod] at this;exact this
   ·obtain⟨m,hm,rfl⟩:=eo.1 U;have hm:=p5.1 hm;have q:m / c<e.length:=by rw[yD r];exact hm
    have R:=Nat.mod_lt m r;have F:=n e[m / c] (gp q);exact(D (m / c) (m%c) e[m / c] (e[m / c])[m%c] (bo q) (bo O)).jZ
   have p:j<c:=by rw[<-n k (bJ q)];exact(bX.1 R).1
   have aP:=(bX.1 q).1;rw[ek,List.getElem?_range (oI aP p)] at F;simp at F;rw[<-F];have V:(i*c+j) / c=i:=by rw[Nat.mul_comm,Nat.mul_add_div r,Nat.div_eq_of_lt p,rl]
   rw[V,Nat.mod_eq_of_lt p];exact D i j k x q R
end ops
end
variable {X:Map}{k n:Nat}{w:World}
theorem N8{gen:Nat}(q:Option Nat)(c:Option Nat)(i:1<=gen)(h:X k=aa (q,gen)):dS X (X.put k (aa (c,gen+1))):=by
 intro id l m a;by_cases e:id=k
 ·subst e;rw[h] at a;cases a;exact .inr ⟨i,c,gen+1,lW _ _ _,oO _⟩
 exact .inl (by rw[fz _ _ _ _ e];exact a)
theorem M0{K:Ctx}{s:S}{a:Act}(h:Rel K X s a w):Rel K X s a w.drew:=h.grow (Ext.drew _ _)
theorem MA{size:Nat}{rows news:List (List T)}(e o h:List Value)(p:rows.length=n)(q:e.length=n*size)(G:o.length=news.length*size)(B: ∀a,a∈rows->a.length=size)(r: ∀a,a∈news->a.length=size){R:T->Value->Prop}
  (H: ∀(i j:Nat) (a:List T) (x:T) (u:Value),rows[i]? =aa a->a[j]? =aa x->e[i*size+j]? =aa u->R x u)
  (L: ∀(i j:Nat) (a:List T) (x:T) (u:Value),news[i]? =aa a->a[j]? =aa x->o[i*size+j]? =aa u->R x u):
  ∀(i j:Nat) (a:List T) (x:T) (u:Value),(rows++news)[i]? =aa a->a[j]? =aa x->(e++o++h)[i*size+j]? =aa u->R x u:=by
 intro i j a x u k y C;by_cases l:i<rows.length
 ·rw[iV l] at k;have c:j<size:=by rw[<-B a (bJ k)];exact(bX.1 y).1
  have m:i*size+j<e.length:=by rw[q,<-p];exact oI l c
  grind
 rw[hT O] at k;have c:j<size:=by rw[<-r a (bJ k)];exact(bX.1 y).1
 have w:=(bX.1 k).1;have m:=oI (size:=size) w c;have F:e.length<=i*size+j:=by rw[q,<-p];have:=eL size (O:rows.length<=i);omega
 have A:i*size+j-e.length=(i-rows.length)*size+j:=by rw[q,<-p,Nat.sub_mul];have:=eL size (O:rows.length<=i);omega
 grind
section ops
variable {K:Ctx}{s:S}{d:Option Tmp}{ty:TypeId}{pos:String}{af:Array Edge}{g:Option (Nat×Bool)}
variable {t:TypeId}{u:TypeDesc}{z:Value}{gen size bytes:Nat}
def Rows(a:Nat)(c:List (List T)):Prop:= ∀e,e∈c->e.length=a
theorem Rows.nil(a:Nat):Rows a []:=λ_ h=>by simp at h
theorem Rows.map{a:Type}{f:a->List T}(l:List a)(h: ∀x,(f x).length=n):Rows n (l.map f):=λc e=>by obtain⟨x,_,rfl⟩:=eo.1 e;exact h x
theorem Mh(R:Nat->V)(k:Nat)(e:TypeId)(G:s.u k=ak)(n: ∀(i q:Map) (w:World) (X W:Nat->Prop) (j:Nat) (u:Value),q k=aa (aj,1)->(∀v u,bp i w X v u->bp q w W v u)->bp i w X (s.t j) u->bp q w W (R j) u):
  s.le K {t:=R,H:=bc s.H k (aa (.arr e 1 size [])),u:=bc s.u k ab}:=by
 intro i a w h;have r:i k=aj:=h.eh _ G;have o: ∀id x,i id=aa x->i.put k (aa (aj,1)) id=aa x:=λid x A=>by
  rw[fz _ _ _ _ (by intro e;subst e;rw[r] at A;cases A)];exact A
 have B:=dS.of o;have l: ∀id b,At (i.put k (aa (aj,1))) id b->id≠k/\At i id b:=λid b a7=>by
  by_cases n:id=k
  ·subst n;rcases a7 with ⟨g,a7⟩|a7
   ·rw[lW] at a7;cases a7
   exact bz a7 (h.eQ _ _ G)
  refine⟨n,?_⟩;rcases a7 with ⟨g,a7⟩|a7
  ·rw[fz _ _ _ _ n] at a7;exact .inl ⟨g,a7⟩
  exact .inr a7
 have p: ∀b,own K (i.put k (aa (aj,1))) (bc s.H k (aa (.arr e 1 size []))) b->own K i s.H b:=by
  rintro b (A|⟨id,y,C⟩)
  ·exact .inl A
  obtain⟨L,Z⟩:=l id b C;rw[cb _ _ _ _ L] at y;exact .inr ⟨id,y,Z⟩
 have Q: ∀v u,bp i w (own K i s.H) v u->bp (i.put k (aa (aj,1))) w (own K (i.put k (aa (aj,1))) (bc s.H k (aa (.arr e 1 size [])))) v u:=
  λv u f=>f.mono (Ext.refl _ _) (λb _=>p b) B (Shaped.refl _ _)
 refine⟨i.put k (aa (aj,1)),{h with base:= ?_,low:= ?_,eh:= ?_,eQ:= ?_,inj:= ?_,fresh:= ?_,heap:= ?_,dB:= ?_}⟩
 ·refine h.base.keep λid hid=>?_
  have:=h.low id hid;rw[fz _ _ _ _ (by intro e;subst e;rw[G] at this;cases this)]
 ·intro id hid;show bc s.u k ab id=ab;by_cases e:id=k
  ·subst e;exact cc _ _ _
  rw[cb _ _ _ _ e];exact h.low id hid
 ·intro id hid;have c:bc s.u k ab id=ak:=hid;by_cases e:id=k
  ·subst e;rw[cc] at c;cases c
  rw[cb _ _ _ _ e] at c;rw[fz _ _ _ _ e];exact h.eh id c
 ·intro id b hid;have c:bc s.u k ab id=ak:=hid;by_cases e:id=k
  ·subst e;rw[cc] at c;cases c
  rw[cb _ _ _ _ e] at c;exact h.eQ id b c
 ·intro id F b y C;exact h.inj id F b (l id b y).2 (l F b C).2
 ·intro id b a7;exact h.fresh id b (l id b a7).2
 ·intro id e' m;have m:bc s.H k (aa (.arr e 1 size [])) id=aa e':=m;show bc s.u k ab id=ab/\cN _ _ (own K _ (bc s.H k (aa (.arr e 1 size [])))) id e';by_cases n:id=k
  ·subst n;rw[cc] at m;cases m;exact⟨cc _ _ _,cV _,Or.inl ⟨cc _ _ _,rfl⟩⟩
  rw[cb _ _ _ _ n] at m;obtain⟨y,C⟩:=h.heap id e' m;exact⟨by rw[cb _ _ _ _ n];exact y,C.mono (Ext.refl _ _) (λb _=>p b) B (o id) (Shaped.refl _ _) λ_ _=>rfl⟩
 intro j;exact n i _ w _ _ j _ (cc _ _ _) Q (h.dB j)
theorem ND{U T:Map}{X Z:Nat->Prop}{u:Value}(a:T k=aa (aj,1))(h:bp U w X (.t .fF) u):bp T w Z (.bn k 1 n 0 0) u:=by
 cases h with
 |t _ _ c=>cases c;exact .iO k 1 n (cV _) a
theorem aa8(i k:Nat)(e:TypeId)(l:s.u k=ak)(m:s.t i= .t .fF):s.le K {t:=bc s.t i (.bn k 1 size 0 0),H:=bc s.H k (aa (.arr e 1 size [])),u:=bc s.u k ab}:=
 Mh _ k e l (λp n w X q j u o a h=>by
  by_cases c:j=i
  ·subst c;rw[cc];rw[m] at h;exact ND o h
  rw[cb _ _ _ _ c];exact a _ _ h)
theorem Zd(i j k:Nat)(e:TypeId){a:List V}(x:s.u k=ak)(y:s.t i= .agg a)(p:a[j]? =aa (.t .fF)):s.le K {t:=bc s.t i (.agg (a.set j (.bn k 1 size 0 0))),H:=bc s.H k (aa (.arr e 1 size [])),u:=bc s.u k ab}:=
 Mh _ k e x (λL A w X Q B u C l h=>by
  by_cases m:B=i
  ·subst m;rw[cc];rw[y] at h;cases h with|agg _ F G q=>
   refine .agg _ F (by simpa using G) λi c u o r=>?_;by_cases n:i=j
   ·subst n;rw[hU (bX.1 p).1] at o;cases o;exact ND C (q i _ u p r)
   rw[jm (Ne.symm n)] at o;exact l _ _ (q i c u o r)
  rw[cb _ _ _ _ m];exact l _ _ h)
theorem Xa(x y:Operand)(C i c:Nat)(e:TypeId)(o:List (List T))(l:List T)(m:List T)(hx:s.get x= .cK C gen size i c){v:V}(hle:dC (s.get y) v)(hy:v.cs=m.map .t)(mx:v.val=ab)(Z:s.H C=aa (.arr e gen size o)){A:Nat}(gF:cj K.P t u z A bytes)
  (B:o[i]? =aa l) (hs:m.length=A) (cC:c+A<=size):
  dY K ⟨aj,.store t x y,ty,pos,af,g⟩ s {s with H:=bc s.H C (aa (.arr e gen size (o.set i (l.take c++m++l.drop (c+m.length)))))}:=by
 intro β a w next Q W hk
 have f:=W.get x;rw[hx] at f;obtain⟨q,hq⟩:=l3 (W.heap C _ Z).2;obtain⟨b,kU,xB⟩:=pQ f hq;subst kU;have a7:=hq;have aP:=(bX.1 B).1;rcases(W.heap C _ Z).2.2 with ⟨_,D⟩|⟨hF,p,h1,D,h3,h4,h5⟩
 ·rw[D] at aP;simp at aP
 rw[a7] at h1;cases h1;obtain⟨c1,c2⟩:=(hle _ _ _ _ (W.get y)).cells mx;rw[hy] at c1 c2;have E:(a.eval y).cells.size=A:=by rw[c1];simpa using hs
 have hrl:l.length=size:=h4 l (bJ B);have ain:i*size+size<=p.size:=by
  have:(i+1)*size<=o.length*size:=eL _ aP;rw[fc] at this;omega
 have I: ∀e∈(a.eval y).cells.toList,e.oneCell'=ab:=by
  intro e he;obtain⟨j,hj⟩:=kx.1 he;have M:(a.eval y).cells[j]? =aa e:=by simpa using hj
  have N:j<m.length:=by have:=(kv.1 M).1;rw[c1] at this;simpa using this
  exact(c2 j (.t m[j]) e (by simp[N]) M).jZ rfl
 unfold Oper.wp;have U:=Jd gF w b (i*size+c) p e (a.eval y) D E O I;have L:(execOp a.eval ⟨aj,.store t x y,ty,pos,af,g⟩).run K.P w= .ok .skip (w.setRow b (p.toList.take (i*size+c)++(a.eval y).cells.toList++p.toList.drop (i*size+c+(a.eval y).cells.toList.length)).toArray):=by
  simp only[execOp,xB,Instr.storeAt,Instr.sureAddr,ff,Sem.run_pure,fb,U]
 rw[L];have ot:(a.eval y).cells.toList.length=m.length:=by simp[c1]
 have F:(p.toList.take (i*size+c)++(a.eval y).cells.toList++p.toList.drop (i*size+c+(a.eval y).cells.toList.length)).length=p.size:=by
  simp[E];omega
 refine hk β _ _ (Rel.setRow W C b (.inl ⟨_,a7⟩) p e D _ (by simpa using F) (.arr e gen size (o.set i (l.take c++m++l.drop (c+m.length)))) (by rw[Z];simp) ?_);have hb':own K β s.H b:= .inr ⟨C,by rw[Z];simp,.inl ⟨_,a7⟩⟩;have R: ∀x u,dh w (own K β s.H) x u->dh (w.setRow b (p.toList.take (i*size+c)++(a.eval y).cells.toList++p.toList.drop (i*size+c+(a.eval y).cells.toList.length)).toArray) (own K β s.H) x u:=by
  intro v u bR;exact bR.mono ⟨rfl,rfl,rfl,aW,λk _ hx=>setRow_other _ _ _ _ λe=>hx (e▸hb')⟩ λ_ _ h=>h
 have Qv:(l.take c++m++l.drop (c+m.length)).length=size:=bZ
 refine⟨(W.heap C _ Z).2.1,Or.inr ⟨b,_,a7,setRow_heap _ _ _ _ _ _ D,?_,?_,?_⟩⟩
 ·simp only[List.size_toArray,F,List.length_set];exact h3
 ·intro r afO;rcases td afO with h|h
  ·exact h4 r h
  rw[h];exact Qv
 intro n j G j4 X aS a2 a3;apply R;have a3:(p.toList.take (i*size+c)++(a.eval y).cells.toList++p.toList.drop (i*size+c+(a.eval y).cells.toList.length))[n*size+j]? =aa X:=by simpa using a3
 simp only[List.getElem?_append,rz,List.length_take,List.getElem?_take,List.getElem?_drop,Array.length_toList] at a3;rw[show min (i*size+c) p.size=i*size+c by omega,show(a.eval y).cells.size=m.length by simpa using ot] at a3;by_cases xu:n=i
 ·subst xu;rw[hU aP] at aS;cases aS;have hjs:j<size:=by rw[<-Qv];exact(bX.1 a2).1
  simp only[List.getElem?_append,rz,List.length_take,List.getElem?_take,List.getElem?_drop,hrl] at a2;rw[show min c size=c by omega] at a2;by_cases di:j<c
  ·rw[aX O,aX di,aX di] at a2;rw[aX O,aX O,aX O] at a3;exact h5 n j l j4 X B a2 (by simpa using a3)
  by_cases cI:j<c+m.length
  ·rw[aX O,aY di] at a2;rw[aX O,aY O] at a3;rw[show n*size+j-(n*size+c)=j-c by omega] at a3;have h9:=c2 (j-c) (.t j4) X (by rw[ek,a2];rfl) (by simpa using a3);cases h9 with|t _ _ h=>exact h
  rw[aY O] at a2;rw[aY O] at a3;rw[show c+m.length+(j-(c+m.length))=j by omega] at a2;rw[show n*size+c+m.length+(n*size+j-(n*size+c+m.length))=n*size+j by omega] at a3;exact h5 n j l j4 X B a2 (by simpa using a3)
 rw[jm (Ne.symm xu)] at aS;have hjs:j<size:=by rw[<-h4 G (bJ aS)];exact(bX.1 a2).1
 have hold:p[n*size+j]? =aa X:=by
  rcases Nat.lt_or_ge n i with N|kW
  ·have:n*size+size<=i*size:=by have:=eL size (O:n+1<=i);rw[fc] at this;omega
   rw[aX O,aX O,aX O] at a3;simpa using a3
  have:i*size+size<=n*size:=by have:=eL size (O:i+1<=n);rw[fc] at this;omega
  rw[aY O] at a3;rw[show i*size+c+m.length+(n*size+j-(i*size+c+m.length))=n*size+j by omega] at a3;simpa using a3
 exact h5 n j G j4 X aS a2 hold
end ops
end Go.Lift
