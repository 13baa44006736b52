/- Tools. -/
import Derived.Tactics
import Derived.Deep.Quiet
import Derived.Laws.World
import Derived.Laws.Sem
import Derived.WalkKit
namespace Go.Lift
open Go
abbrev bs:=@decide_eq_false
abbrev bp:=@decide_eq_true
abbrev aW.{u}:=@if_pos.{u}
abbrev aT.{u}:=@if_neg.{u}
abbrev bt.{u}:=@absurd.{u}
abbrev eQ:=@of_decide_eq_true
section
variable {p:Prop}{X W:Nat->Prop}{a b c w w':World}{v u:Value}{m:Option Nat}{i j k n sz:Nat}
theorem O(h:p:=by omega):p:=h
theorem Z(h:p:=by dsimp only;omega):p:=h
theorem J(h:p:=by kernel_rfl):p:=h
theorem a1(h:p:=by simp):p:=h
theorem bX(h:p:=by simp;omega):p:=h
abbrev bg.{u}:=@List.getElem?_eq_getElem.{u}
abbrev bM.{u}:=@List.getElem?_eq_some_iff.{u}
abbrev bC.{u}:=@List.mem_of_getElem?.{u}
abbrev cH:=@Nat.eq_of_beq_eq_true
abbrev cq.{u}:=@List.length_take.{u}
abbrev cP.{u}:=@List.length_append.{u}
abbrev cV:=@Int.toNat_natCast
abbrev dt:=@Nat.mul_le_mul_right
abbrev cT.{u}:=@List.take_length.{u}
abbrev ek.{u}:=@List.getD_eq_getElem?_getD.{u}
abbrev dj.{u,v}:=@List.length_map.{u,v}
abbrev eB:=@Nat.le_of_ble_eq_true
abbrev eu.{u}:=@List.mem_cons_of_mem.{u}
abbrev cD:=@Nat.le_refl
abbrev dV.{u}:=@List.take_add_one.{u}
abbrev er.{u,v}:=@List.getElem?_map.{u,v}
abbrev fG.{u}:=@List.take_of_length_le.{u}
abbrev eV.{u}:=@List.mem_of_mem_drop.{u}
abbrev eH.{u}:=@List.mem_cons_self.{u}
abbrev dn:=@Nat.zero_add
abbrev dI.{u}:=@List.mem_cons.{u}
abbrev ef.{u}:=@List.mem_append.{u}
abbrev gY.{u}:=@Array.getElem?_eq_getElem.{u}
abbrev hi.{u}:=@List.getElem?_append_right.{u}
abbrev fU.{u}:=@List.mem_of_mem_take.{u}
abbrev iu.{u}:=@List.getElem?_append_left.{u}
abbrev dC:=@Nat.add_mul
abbrev iP.{u}:=@Array.getElem?_eq_some_iff.{u}
abbrev fs.{u}:=@List.append_assoc.{u}
abbrev fL.{u}:=@List.getElem?_take.{u}
abbrev eX.{u}:=@List.length_drop.{u}
abbrev fS.{u}:=@List.getElem?_drop.{u}
abbrev km.{u}:=@List.eq_nil_of_length_eq_zero.{u}
abbrev ft.{u}:=@List.getElem_mem.{u}
abbrev fC.{u}:=@List.all_eq_true.{u}
abbrev ir.{u}:=@List.getElem?_set_self.{u}
abbrev et.{u,v}:=@List.mem_map.{u,v}
abbrev fD:=@Bool.eq_iff_iff
abbrev fE.{u}:=@List.length_set.{u}
abbrev kn.{u}:=@List.drop_eq_getElem_cons.{u}
abbrev iQ.{u}:=@List.mem_iff_getElem?.{u}
abbrev eW:=@Bool.true_and
abbrev ng.{u}:=@List.take_append_of_le_length.{u}
abbrev ko.{u}:=@List.drop_eq_nil_of_le.{u}
abbrev gJ.{u,v}:=@List.map_append.{u,v}
abbrev jT.{u}:=@List.getElem?_set_ne.{u}
abbrev hV.{u}:=@List.any_eq_true.{u}
abbrev fF:=@Nat.le_trans
abbrev iR.{u}:=@List.all_eq_false.{u}
abbrev kS.{u}:=@List.length_singleton.{u}
abbrev kT.{u}:=@List.getElem?_of_mem.{u}
abbrev fT:=@Nat.zero_mul
abbrev lD.{u}:=@List.mem_append_left.{u}
abbrev mn.{u}:=@List.set_append_right.{u}
abbrev kU.{u}:=@List.mem_singleton.{u}
abbrev lE.{u,v}:=@List.flatMap_append.{u,v}
abbrev iS:=@Bool.and_false
abbrev lF:=@Nat.lt_of_lt_of_le
abbrev qL.{u}:=@Array.getD_eq_getD_getElem?.{u}
abbrev gy:=@Int.le_refl
abbrev jU.{u}:=@List.append_nil.{u}
abbrev oa.{u}:=@List.mem_append_right.{u}
abbrev qM.{u}:=@List.mem_or_eq_of_mem_set.{u}
abbrev ni.{u}:=@Array.length_toList.{u}
abbrev pg.{u}:=@Array.getElem?_toList.{u}
abbrev qN.{u}:=@List.take_append_drop.{u}
abbrev pj.{u}:=@List.drop_set_of_lt.{u}
abbrev lG:=@Bool.and_assoc
abbrev sL.{u}:=@List.getElem?_replicate.{u}
abbrev sM.{u}:=@List.all_eq_not_any_not.{u}
abbrev kp:=@Nat.sub_self
abbrev pk.{u}:=@List.filter_append.{u}
abbrev nj:=@List.range_succ
abbrev mo:=@Int.mul_nonneg
abbrev mq.{u}:=@List.drop_zero.{u}
abbrev ob:=@Nat.lt_succ_self
abbrev oc:=@Bool.and_eq_true
abbrev od.{u}:=@List.drop_length.{u}
abbrev sH.{u}:=@List.length_filter_le.{u}
abbrev nh:=@Nat.mul_le_mul
abbrev qG.{u}:=@List.pairwise_cons.{u}
abbrev vn.{u}:=@List.length_eq_one_iff.{u}
abbrev n':=@List.mem_range
abbrev vo:=@Nat.div_lt_iff_lt_mul
abbrev pe:=@Nat.min_eq_left
abbrev sI.{u}:=@List.set_cons_zero.{u}
abbrev Dh.{u}:=@List.drop_append_of_le_length.{u}
abbrev qH.{u}:=@List.length_cons.{u}
abbrev Di.{u}:=@List.mem_zipIdx_iff_getElem?.{u}
abbrev qI:=@Nat.not_lt_zero
abbrev qJ.{u}:=@List.nil_append.{u}
abbrev vp.{u,v,w}:=@List.length_zipWith.{u,v,w}
abbrev yB.{u}:=@List.drop_of_length_le.{u}
abbrev sJ.{u,v}:=@List.mem_flatMap.{u,v}
abbrev pf:=@Nat.add_assoc
abbrev yC.{u}:=@List.getElem?_eq_none.{u}
abbrev vq.{u}:=@List.mem_replicate.{u}
abbrev Jx.{u}:=@List.findIdx?_eq_some_iff_getElem.{u}
abbrev Dj.{u}:=@List.exists_mem_of_ne_nil.{u}
abbrev qK:=@Int.mul_le_mul
abbrev sK.{u}:=@List.any_append.{u}
abbrev Jy.{u}:=@Array.eq_empty_of_size_eq_zero.{u}
abbrev Dk.{u,v}:=@Option.bind_eq_some_iff.{u,v}
abbrev yD:=@Int.toNat_of_nonneg
abbrev vr.{u,v}:=@Array.toList_map.{u,v}
abbrev vt:=@Nat.lt_of_not_le
abbrev qO:=@Nat.add_zero
abbrev Dm.{u}:=@List.length_replicate.{u}
abbrev sN.{u,v}:=@List.map_take.{u,v}
abbrev yE.{u,v}:=@List.flatMap_cons.{u,v}
abbrev vu:=@Bool.false_and
abbrev yF.{u}:=@List.sum_append.{u}
abbrev kV.{u}:=@Ne.symm.{u}
inductive T where
  |bool (b:Bool)
  |int (k:IntKind) (n:Int)
  |str (s:List UInt8)
  |ay (rows:List (List T))
  |e5
  |gF
  |gh
  |mX
  |err
  deriving Inhabited
inductive V where
  |t (x:T)
  |agg (cs:List V)
  |bJ (vs:List V)
  |ref (id off:Nat)
  |aK (cells:List T)
  |a7 (id gen size off len:Nat)
  |ct (id gen size i off:Nat)
  |fn (f:FuncId) (ah3:List V)
  |cX
  deriving Inhabited
structure dG where
  ty:TypeId
  size:Nat
  bj:List (Nat×Nat)
def tw:List (Nat×Nat)->Nat->Option Nat
  | [],_=>none
  |p::l,j=>bif Nat.beq p.1 j then some p.2 else tw l j
def dG.ej(d:dG)(j:Nat):Option Nat:=tw d.bj j
def aho:dG:=⟨0,0,[]⟩
def U(a:List dG)(m:Nat):dG:=a.getD m aho
inductive E where
  |cells (cs:List V)
  |arr (ty:TypeId) (gen size:Nat) (rows:List (List T))
  |a6 (fN:List dG) (m gen:Nat) (rows:List (List T)) (open_:List (Nat×Nat×V))
structure Map where
  f:Nat->Option (Option Nat×Nat)
  n:Nat->Nat->Prop
instance:CoeFun Map (λ_=>Nat->Option (Option Nat×Nat)):=⟨Map.f⟩
def At(a:Map)(c b:Nat):Prop:=(∃g,a c=some (some b,g))\/a.n c b
def de(c a:Map):Prop:= ∀id q g,c id=some (q,g)->a id=some (q,g)\/(1<=g/\ ∃e b,a id=some (e,b)/\g<b)
theorem de.refl(β:Map):de β β:=λ_ _ _ h=> .inl h
variable {β G β':Map}{t:List dG}{e:E}
theorem de.of(h: ∀id x,β id=some x->G id=some x):de β G:=λ_ _ _ a=> .inl (h _ _ a)
structure Ext (X:Nat->Prop) (w w':World):Prop where
  os:w'.os=w.os
  tape:w'.tape=w.tape
  output:w'.output=w.output
  size:w.heap.size<=w'.heap.size
  keep: ∀b,b<w.heap.size-> ¬X b->w'.heap[b]? =w.heap[b]?
theorem Ext.refl(X:Nat->Prop)(w:World):Ext X w w:=⟨rfl,rfl,rfl,cD _,λ_ _ _=>rfl⟩
theorem Ext.trans(h:Ext X a b)(k:Ext X b c):Ext X a c:=
  ⟨k.os.trans h.os,k.tape.trans h.tape,k.output.trans h.output,fF h.size k.size,
   λi e l=>(k.keep i (lF e h.size) l).trans (h.keep i e l)⟩
theorem Ext.trans'(h:Ext X a b)(k:Ext (λi=> ¬(i<a.heap.size/\ ¬X i)) b c):Ext X a c:=
  ⟨k.os.trans h.os,k.tape.trans h.tape,k.output.trans h.output,fF h.size k.size,
   λi e l=>(k.keep i (lF e h.size) λm=>m ⟨e,l⟩).trans (h.keep i e l)⟩
theorem Ext.weaken(h:Ext X a b)(e: ∀i,i<a.heap.size->X i->W i):Ext W a b:=
  ⟨h.os,h.tape,h.output,h.size,λi c k=>h.keep i c λl=>k (e i c l)⟩
theorem Ext.drew(X:Nat->Prop)(w:World):Ext X w w.drew:=⟨rfl,rfl,rfl,cD _,λ_ _ _=>rfl⟩
theorem heap_alloc(w:World)(o:Obj)(k:Nat)(h:k<w.heap.size):(w.alloc o).heap[k]? =w.heap[k]? :=by
  show(w.heap.push o)[k]? =_
  grind
theorem iZ(w:World)(o:Obj):(w.alloc o).heap[w.heap.size]? =some o:=by show(w.heap.push o)[w.heap.size]? =_;simp
theorem Ext.alloc(X:Nat->Prop)(w:World)(o:Obj):Ext X w (w.alloc o):=
  ⟨rfl,rfl,rfl,a1,λk a _=>heap_alloc _ _ _ a⟩
theorem xW{b:Nat}(h:a.heap[b]? =w.heap[b]?):a.shape? b=w.shape? b:=by unfold World.shape?;rw[h]
def Shaped(_β:Map)(w a:World):Prop:= ∀b,b<w.heap.size->a.shape? b=w.shape? b
theorem Shaped.refl(β:Map)(w:World):Shaped β w w:=λ_ _=>rfl
theorem p8(e:Ext (λ_=>False) w w'):Shaped G w w':=λb a=>xW (e.keep b a λh=>h)
theorem Vs(w:World)(a:Addr)(u:Value)(k:Nat)(h:k≠a.block):(w.setCell a u).heap[k]? =w.heap[k]? :=by
  simp only[World.setCell,Array.getElem?_modify]
  grind
theorem Ext.setCell(w:World)(a:Addr)(u:Value)(h:X a.block):Ext X w (w.setCell a u):=
  ⟨rfl,rfl,rfl,a1,λk _ b=>Vs _ _ _ _ λe=>b (e▸h)⟩
theorem D1{a:Addr}(h:b.heap[a.block]? =w.heap[a.block]?):b.cell? a=w.cell? a:=by unfold World.cell?;rw[h]
inductive cL (w:World) (X:Nat->Prop):T->Value->Prop where
  |bool (b:Bool):cL w X (.bool b) (.bool b)
  |int (k:IntKind) (n:Int):cL w X (.int k n) (.int k n)
  |str (l:List UInt8):cL w X (.str l) (.string ⟨l.toArray⟩)
  |fB (a:Option Addr) (cap:Nat):cL w X (.ay []) (.slice a 0 cap)
  |ay (rows:List (List T)) (b off size cap:Nat) (f:Nat->Nat->Value) (aV:b<w.heap.size) (gb: ¬X b) (Ih:rows.length<=cap)
      (kH: ∀row,row∈rows->row.length=size)
      (bB: ∀i j,i<rows.length->j<size->w.cell? ⟨b,off+i*size+j,none⟩=some (f i j))
      (bO: ∀(i j:Nat) (row:List T) (x:T),rows[i]? =some row->row[j]? =some x->cL w X x (f i j)):
      cL w X (.ay rows) (.slice (some ⟨b,off,none⟩) rows.length cap)
  |e5:cL w X .e5 (.slice none 0 0)
  |gF:cL w X .gF (.pointer none)
  |gh:cL w X .gh .nilIface
  |mX:cL w X .mX .nilFunc
  |err (t:TypeId) (v:Value):cL w X .err (.iface t v)
theorem cL.mono{x:T}(h:cL w X x v)(e:Ext X w w')(A: ∀b,b<w.heap.size->W b->X b):cL w' W x v:=by
  induction h with
  |bool b=>exact .bool b
  |int k n=>exact .int k n
  |str l=>exact .str l
  |fB a c=>exact .fB a c
  |ay m b r o c f s p q y B _ C=>
    exact .ay m b r o c f (lF s e.size) (λh=>p (A b s h)) q y
      (λi j D F=>by rw[D1 (w:=w) (e.keep b s p)];exact B i j D F) (λi j z x G K=>C i j z x G K)
  |e5=>exact .e5
  |gF=>exact .gF
  |gh=>exact .gh
  |mX=>exact .mX
  |err t v=>exact .err t v
inductive bh (β:Map) (w:World) (X:Nat->Prop):V->Value->Prop where
  |t (x:T) (v:Value):cL w X x v->bh β w X (.t x) v
  |agg (cs:List V) (us:Array Value) (b9:us.size=cs.length) (h: ∀(i:Nat) c u,cs[i]? =some c->us[i]? =some u->bh β w X c u):bh β w X (.agg cs) (.agg us)
  |bJ (cs:List V) (us:Array Value) (b9:us.size=cs.length) (h: ∀(i:Nat) c u,cs[i]? =some c->us[i]? =some u->bh β w X c u):bh β w X (.bJ cs) (.tuple us)
  |ref (id off b:Nat) (aV:β id=some (some b,0)):bh β w X (.ref id off) (.pointer (some ⟨b,off,none⟩))
  |aK (cells:List T) (b off:Nat) (f:Nat->Value) (aV:b<w.heap.size) (gb: ¬X b)
      (bB: ∀j,j<cells.length->w.cell? ⟨b,off+j,none⟩=some (f j))
      (bO: ∀(j:Nat) (x:T),cells[j]? =some x->cL w X x (f j)):bh β w X (.aK cells) (.pointer (some ⟨b,off,none⟩))
  |a7 (id gen size off len cap b n:Nat) (ty:TypeId) (bE:1<=gen) (aV:β id=some (some b,gen)) (hw:b<w.heap.size) (hs:w.shape? b=some (ty,n)) (cu:(off+cap)*size=n) (b9:len<=cap) (hm:cap<=maxLen):
      bh β w X (.a7 id gen size off len) (.slice (some ⟨b,off*size,none⟩) len cap)
  |gT (id gen size:Nat) (bE:1<=gen) (aV:β id=some (none,gen)):bh β w X (.a7 id gen size 0 0) (.slice none 0 0)
  |kM (id gen size off len:Nat) (v:Value) (q:Option Nat) (g:Nat) (dY:v.oneCell'=true) (aV:β id=some (q,g)) (bE:gen<g):bh β w X (.a7 id gen size off len) v
  |ct (id gen size i off b:Nat) (bE:1<=gen) (aV:β id=some (some b,gen)):bh β w X (.ct id gen size i off) (.pointer (some ⟨b,i*size+off,none⟩))
  |k5 (id gen size i off:Nat) (v:Value) (q:Option Nat) (g:Nat) (dY:v.oneCell'=true) (aV:β id=some (q,g)) (bE:gen<g):bh β w X (.ct id gen size i off) v
  |fn (f:FuncId) (cs:List V) (us:Array Value) (b9:us.size=cs.length) (h: ∀(i:Nat) c u,cs[i]? =some c->us[i]? =some u->bh β w X c u):
      bh β w X (.fn f cs) (.func (.func f) #[] us)
  |cX (v:Value):bh β w X .cX v
theorem bh.mono{x:V}(h:bh β w X x v)(e:Ext X w w')(C: ∀b,b<w.heap.size->W b->X b)
    (m:de β β') (D:Shaped β w w'):bh β' w' W x v:=by
  induction h with
  |t x v h=>exact .t x v (h.mono e C)
  |agg cs y s _ z=>exact .agg cs y s z
  |bJ cs y s _ z=>exact .bJ cs y s z
  |ref id c b k=>
    rcases m _ _ _ k with h|⟨h,_⟩
    · exact .ref id c b h
    · omega
  |aK cells b c f k A K L=>
    exact .aK cells b c f (lF k e.size) (λh=>A (C b k h)) (λj Q=>by rw[D1 (w:=w) (e.keep b k A)];exact K j Q)
      (λj x h=>(L j x h).mono e C)
  |a7 id gen a c len F b n ty o k G R u s I=>
    rcases m _ _ _ k with h|⟨_,p,r,h,l⟩
    · exact .a7 id gen a c len F b n ty o h (lF G e.size) (by rw[D b G];exact R) u s I
    · exact .kM id gen a c len _ p r rfl h l
  |gT id gen a o k=>
    rcases m _ _ _ k with h|⟨_,p,r,h,l⟩
    · exact .gT id gen a o h
    · exact .kM id gen a 0 0 _ p r rfl h l
  |kM id gen a c len v q g B k o=>
    rcases m _ _ _ k with h|⟨_,p,r,h,l⟩
    · exact .kM id gen a c len v q g B h o
    · exact .kM id gen a c len v p r B h O
  |ct id gen a i c b o k=>
    rcases m _ _ _ k with h|⟨_,p,r,h,l⟩
    · exact .ct id gen a i c b o h
    · exact .k5 id gen a i c _ p r rfl h l
  |k5 id gen a i c v q g B k o=>
    rcases m _ _ _ k with h|⟨_,p,r,h,l⟩
    · exact .k5 id gen a i c v q g B h o
    · exact .k5 id gen a i c v p r B h O
  |fn f cs y s _ z=>exact .fn f cs y s z
  |cX v=>exact .cX v
inductive gl (fN:List dG) (w:World) (X:Nat->Prop):Option Nat->T->Value->(Nat->Prop)->Prop where
  |iG (x:T) (v:Value) (N:Nat->Prop) (h:cL w X x v) (ey: ∀c,¬N c):gl fN w X none x v N
  |nil (m:Nat) (N:Nat->Prop) (ey: ∀c,¬N c):gl fN w X (some m) (.ay []) (.slice none 0 0) N
  |own (m:Nat) (rows:List (List T)) (b cap:Nat) (us:Array Value) (B:Nat->Nat->Nat->Prop) (N:Nat->Prop)
      (hw:w.heap[b]? =some (.cells us (U fN m).ty (0,0))) (hs:us.size=cap*(U fN m).size) (hm:cap<=maxLen) (b9:rows.length<=cap)
      (kH: ∀row,row∈rows->row.length=(U fN m).size)
      (bO: ∀(i j:Nat) (row:List T) (x:T) (u:Value),rows[i]? =some row->row[j]? =some x->us[i*(U fN m).size+j]? =some u->gl fN w X ((U fN m).ej j) x u (B i j))
      (di: ∀i j c,B i j c->i<rows.length/\j<(U fN m).size/\c≠b)
      (cn: ∀i j ih cR c,B i j c->B ih cR c->i=ih/\j=cR)
      (ey: ∀c,N c↔c=b\/ ∃i j,B i j c):
      gl fN w X (some m) (.ay rows) (.slice (some ⟨b,0,none⟩) rows.length cap) N
theorem gl.mono{x:T}{N:Nat->Prop}(h:gl t w X m x v N)(e:Ext X w w')(r: ∀b,b<w.heap.size->W b->X b)
    (q: ∀b,N b->w'.heap[b]? =w.heap[b]?):gl t w' W m x v N:=by
  induction h with
  |iG x v N h a=>exact .iG x v N (h.mono e r) a
  |nil m N a=>exact .nil m N a
  |own m k b n s B N y l z A o R C D a F=>
    refine .own m k b n s B N ?_ l z A o (λi j p x u G K L=>F i j p x u G K L λc Q=>q c ((a c).2 (.inr ⟨i,j,Q⟩))) C D a;rw[q b ((a b).2 (.inl rfl))];exact y
theorem gl.iff{x:T}{N:Nat->Prop}(h:gl t w X m x v N)(a: ∀c,W c↔N c):gl t w X m x v W:=by
  cases h with
  |iG _ _ _ h e=>exact .iG _ _ _ h (λc k=>e c ((a c).1 k))
  |nil _ _ e=>exact .nil _ _ (λc k=>e c ((a c).1 k))
  |own m i b l o B _ p q r s n y z A e=>exact .own m i b l o B _ p q r s n y z A λc=>(a c).trans (e c)
theorem gl.lt{x:T}{N:Nat->Prop}(h:gl t w X m x v N): ∀c,N c->c<w.heap.size:=by
  induction h with
  |iG _ _ _ _ a=>exact λc e=>bt e (a c)
  |nil _ _ a=>exact λc e=>bt e (a c)
  |own m k b l q B N r s C D n F y G a z=>
    intro c e;rcases(a c).1 e with rfl|⟨i,j,o⟩
    · exact(iP.1 r).1
    · obtain⟨p,K,_⟩:=y i j c o;have L:=n _ (ft p);have A:i*(U t m).size+j<q.size:=by
        rw[s]
        have:(i+1)*(U t m).size<=l*(U t m).size:=dt _ O;rw[dC] at this;omega
      exact z i j _ (k[i][j]' O) _ (bg p) (bg O) (gY A) c o
theorem gl.yn{x:T}{N:Nat->Prop}(h:gl t w X m x v N)(A: ∀b,W b->X b)(l: ∀b,N b-> ¬W b):cL w W x v:=by
  induction h with
  |iG x v N h q=>exact h.mono (Ext.refl _ _) (λb _=>A b)
  |nil m N q=>exact .fB _ _
  |own m n b e k B N s y L C o Q R f q D=>
    refine .ay n b 0 (U t m).size e (λi j=>k.getD (i*(U t m).size+j) undef) (iP.1 s).1 (l b ((q b).2 (.inl rfl))) C o (λi j aD F=>?_) λi j p x r z=>?_
    · have a:i*(U t m).size+j<k.size:=by
        rw[y]
        have:(i+1)*(U t m).size<=e*(U t m).size:=dt _ O;rw[dC] at this;omega
      simp[World.cell?,s,a]
    · have aD:=(bM.1 r).1;have F:j<(U t m).size:=by rw[<-o p (bC r)];exact(bM.1 z).1
      have a:i*(U t m).size+j<k.size:=by
        rw[y]
        have:(i+1)*(U t m).size<=e*(U t m).size:=dt _ O;rw[dC] at this;omega
      have G:k.getD (i*(U t m).size+j) undef=k[i*(U t m).size+j]:=by simp[a]
      show cL w W x (k.getD (i*(U t m).size+j) undef);rw[G];exact D i j p x _ r z (gY a) λc K=>l c ((q c).2 (.inr ⟨i,j,K⟩))
def Cell(a:List dG)(m:Nat)(b:List (Nat×Nat×V))(β:Map)(w:World)(X:Nat->Prop)(i j:Nat)(x:T)(u:Value)(N:Nat->Prop):Prop:=
  (∀v,(i,j,v)∈b->bh β w X v u/\ ∀c,¬N c)/\((∀v,(i,j,v)∉b)->gl a w X ((U a m).ej j) x u N)
theorem Cell.mono{m:Nat}{S:List (Nat×Nat×V)}{x:T}{N:Nat->Prop}(h:Cell t m S β w X i j x u N)
    (e:Ext X w w') (l: ∀b,b<w.heap.size->W b->X b) (a:de β β') (c:Shaped β w w') (k: ∀b,N b->w'.heap[b]? =w.heap[b]?):Cell t m S β' w' W i j x u N:=
  ⟨λv n=>⟨(h.1 v n).1.mono e l a c,(h.1 v n).2⟩,λo=>(h.2 o).mono e l k⟩
theorem Cell.none{m:Nat}{x:T}{N:Nat->Prop}(h:Cell t m [] β w X i j x u N):gl t w X ((U t m).ej j) x u N:=h.2 λ_ a=>List.not_mem_nil a
theorem Cell.of{m:Nat}{x:T}{N:Nat->Prop}(h:gl t w X ((U t m).ej j) x u N):Cell t m [] β w X i j x u N:=⟨λ_ a=>bt a List.not_mem_nil,λ_=>h⟩
def cy(β:Map)(w:World)(X:Nat->Prop)(l:Nat):E->Prop
  | .cells cs=> ∃(b:Nat) (h:Array Value) (ty:TypeId),β l=some (some b,0)/\w.heap[b]? =some (.cells h ty (0,0))/\h.size=cs.length/\
      ∀(i:Nat) c u,cs[i]? =some c->h[i]? =some u->bh β w X c u
  | .arr ty gen k a=>1<=gen/\((β l=some (none,gen)/\a=[])\/ ∃(b:Nat) (h:Array Value),β l=some (some b,gen)/\w.heap[b]? =some (.cells h ty (0,0))/\
      a.length*k<=h.size/\(∀e,e∈a->e.length=k)/\
      ∀(i j:Nat) (e:List T) (x:T) (u:Value),a[i]? =some e->e[j]? =some x->h[i*k+j]? =some u->cL w X x u)
  | .a6 o m gen a r=>1<=gen/\((β l=some (none,gen)/\a=[]/\(∀c,¬β.n l c))\/ ∃(b:Nat) (h:Array Value) (B:Nat->Nat->Nat->Prop),β l=some (some b,gen)/\
      w.heap[b]? =some (.cells h (U o m).ty (0,0))/\a.length*(U o m).size<=h.size/\(∀e,e∈a->e.length=(U o m).size)/\
      (∀(i j:Nat) (e:List T) (x:T) (u:Value),a[i]? =some e->e[j]? =some x->h[i*(U o m).size+j]? =some u->Cell o m r β w X i j x u (B i j))/\
      (∀i j c,B i j c->i<a.length/\j<(U o m).size/\c≠b)/\(∀i j p q c,B i j c->B p q c->i=p/\j=q)/\ ∀c,β.n l c↔ ∃i j,B i j c)
theorem cy.mono{T:E}(h:cy β w X k T)(e:Ext X w w')(F: ∀b,b<w.heap.size->W b->X b)
    (r:de β β') (o: ∀x,β k=some x->β' k=some x) (s:Shaped β w w') (a: ∀b,At β k b->w'.heap[b]? =w.heap[b]?) (K: ∀b,β'.n k b↔β.n k b:=by exact λ_=>Iff.rfl):cy β' w' W k T:=by
  cases T with
  |cells cs=>
    obtain⟨b,y,ty,l,p,z,A⟩:=h;exact⟨b,y,ty,o _ l,by rw[a b (.inl ⟨_,l⟩)];exact p,z,λi c u C R=>(A i c u C R).mono e F r s⟩
  |arr ty gen L D=>
    refine⟨h.1,?_⟩;rcases h.2 with ⟨l,p⟩|⟨b,y,l,p,z,A,G⟩
    · exact .inl ⟨o _ l,p⟩
    · exact .inr ⟨b,y,o _ l,by rw[a b (.inl ⟨_,l⟩)];exact p,z,A,λi j q x u aH a2 a3=>(G i j q x u aH a2 a3).mono e F⟩
  |a6 I m gen D M=>
    refine⟨h.1,?_⟩;rcases h.2 with ⟨l,p,f⟩|⟨b,y,B,l,p,z,A,G,t,v,Q⟩
    · exact .inl ⟨o _ l,p,λc C=>f c ((K c).1 C)⟩
    · refine .inr ⟨b,y,B,o _ l,by rw[a b (.inl ⟨_,l⟩)];exact p,z,A,λi j q x u aH a2 a3=>(G i j q x u aH a2 a3).mono e F r s λc C=>a c (.inr ((Q c).2 ⟨i,j,C⟩)),t,v,λc=>(K c).trans (Q c)⟩
def Map.put(a:Map)(d:Nat)(x:Option (Option Nat×Nat)):Map:=⟨λi=>bif Nat.beq i d then x else a i,a.n⟩
theorem iF(a:Map)(d:Nat)(x:Option (Option Nat×Nat)):a.put d x d=x:=by simp[Map.put]
theorem eo(a:Map)(d i:Nat)(x:Option (Option Nat×Nat))(h:i≠d):a.put d x i=a i:=by
  have:Nat.beq i d=false:=by cases b:Nat.beq i d with
    |false=>rfl
    |true=>exact bt (cH b) h
  simp[Map.put,this]
def aQ{a:Type}(f:Nat->a)(d:Nat)(v:a):Nat->a:=λi=>bif Nat.beq i d then v else f i
theorem bQ{a:Type}(f:Nat->a)(d:Nat)(v:a):aQ f d v d=v:=by simp[aQ]
theorem bR{a:Type}(f:Nat->a)(d i:Nat)(v:a)(h:i≠d):aQ f d v i=f i:=by
  have:Nat.beq i d=false:=by cases b:Nat.beq i d with
    |false=>rfl
    |true=>exact bt (cH b) h
  simp[aQ,this]
structure S where
  t:Nat->V
  H:Nat->Option E
  u:Nat->Bool
structure eS where
  x0:Nat
  W:World
def eS.ok(G:eS)(w:World):Prop:=G.x0<=w.heap.size/\ ∀b,b<G.x0->w.heap[b]? =G.W.heap[b]?
structure Ctx where
  P:Program
  G:eS
  w0:World
  X:Nat->Prop
  c6:Nat
  hA:Map
  nt:Nat
def Ctx.M(K:Ctx)(b:Nat):Prop:= ∃id,id<K.c6/\At K.hA id b
def own(K:Ctx)(β:Map)(H:Nat->Option E)(b:Nat):Prop:=K.X b\/ ∃id,H id≠none/\At β id b
def jW(n:Nat)(a c:Map)(i:Nat):Prop:= ∀id,id<n->(c id=a id)\/ ∃q g e h,a id=some (q,g)/\1<=g/\c id=some (e,h)/\g<h/\ ∀b,e=some b->q=some b\/i<=b
theorem jW.refl(n:Nat)(β:Map)(sz:Nat):jW n β β sz:=λ_ _=> .inl rfl
theorem jW.keep{V U:Map}(h:jW n G V sz)(a: ∀id,id<n->U id=V id):jW n G U sz:=λid hid=>by rw[a id hid];exact h id hid
theorem jW.more{U V:Map}(h:jW n U V sz)(l: ∀id,id<n->(G id=V id)\/ ∃q g a i,V id=some (q,g)/\1<=g/\G id=some (a,i)/\g<i/\ ∀b,a=some b->q=some b\/sz<=b):jW n U G sz:=by
  intro id hid;rcases l id hid with e|⟨q,g,a,i,aH,a2,a3,a4,a5⟩
  · rw[e];exact h id hid
  · rcases h id hid with e|⟨m,o,x,y,p,r,k,z,s⟩
    · exact .inr ⟨q,g,a,i,by rw[<-e];exact aH,a2,a3,a4,a5⟩
    · rw[aH] at k;cases k;exact .inr ⟨m,o,a,i,p,r,a3,O,λb w=>by
        rcases a5 b w with c|c
        · exact s b c
        · exact .inr c⟩
theorem jW.grow{U V:Map}(h:jW n U V sz)(k gen:Nat)(q c:Option Nat)(l:V k=some (q,gen))(r:1<=gen)(m:G k=some (c,gen+1))(a: ∀b,c=some b->q=some b\/sz<=b)
    (s: ∀id,id≠k->G id=V id):jW n U G sz:=by
  intro id hid;by_cases o:id=k
  · subst o;rcases h id hid with e|⟨w,x,B,C,e,y,p,D,z⟩
    · exact .inr ⟨q,gen,c,gen+1,by rw[<-e];exact l,r,m,ob _,a⟩
    · rw[l] at p;cases p;exact .inr ⟨w,x,c,gen+1,e,y,m,O,λb A=>by
        rcases a b A with i|i
        · exact z b i
        · exact .inr i⟩
  · rw[s id o];exact h id hid
theorem Shaped.ext(h:Shaped G a w)(c:a.heap.size<=w.heap.size)(e:Ext (λ_=>False) w w'):Shaped G a w':=
  λb i=>(xW (e.keep b (lF i c) λh=>h)).trans (h b i)
structure Rel (K:Ctx) (β:Map) (s:S) (a:Act) (w:World):Prop where
  ext:Ext K.M K.w0 w
  nK:K.G.ok K.w0
  nS: ∀b,K.M b->K.G.x0<=b
  ia: ∀b,K.X b->b<K.w0.heap.size/\ ¬K.M b
  base:jW K.c6 K.hA β K.w0.heap.size
  iq:Shaped K.hA K.w0 w
  low: ∀id,id<K.c6->s.u id=true
  dB: ∀id,s.u id=false->β id=none
  dX: ∀id b,s.u id=false-> ¬β.n id b
  qi: ∀id jI b,At K.hA id b->At K.hA jI b->id=jI
  inj: ∀id jI b,At β id b->At β jI b->id=jI
  fresh: ∀id b,At β id b->(K.M b\/K.w0.heap.size<=b)/\b<w.heap.size
  heap: ∀id e,s.H id=some e->s.u id=true/\cy β w (own K β s.H) id e
  cU: ∀i,bh β w (own K β s.H) (s.t i) (a.tmps.getD i undef)
  nt:a.tmps.size=K.nt
  defers:a.defers=[]
theorem W3{G:eS}(h:G.ok w)(e:Ext X w w')(c: ∀b,X b->G.x0<=b):G.ok w':=
  ⟨fF h.1 e.size,λb a=>(e.keep b (lF a h.1) λi=>by have:=c b i;omega).trans (h.2 b a)⟩
variable {K:Ctx}
theorem Rel.BA{s:S}{a:Act}(h:Rel K β s a w):K.G.ok w:=W3 h.nK h.ext h.nS
mutual
def V.ok(u:Nat->Bool):V->Bool
  | .ref id _=>u id
  | .a7 id _ _ _ _=>u id
  | .ct id _ _ _ _=>u id
  | .agg cs=>gg u cs
  | .bJ cs=>gg u cs
  | .fn _ cs=>gg u cs
  | .t _=>true
  | .aK _=>true
  | .cX=>true
def gg(u:Nat->Bool):List V->Bool
  | []=>true
  |c::cs=>V.ok u c&&gg u cs
end
theorem vl{u:Nat->Bool}: ∀{cs:List V} {i:Nat} {c:V},gg u cs=true->cs[i]? =some c->V.ok u c=true
  | [],_,_,_,h=>by simp at h
  |c::cs,0,_,h,a=>by simp at a;subst a;simp[gg] at h;exact h.1
  |c::cs,i+1,_,h,a=>by simp at a;simp[gg] at h;exact vl h.2 a
theorem bh.under{u:Nat->Bool}{x:V}(h:bh β w X x v)(A: ∀b,W b->X b)
    (l: ∀id,u id=true->β' id=β id) (p:x.ok u=true):bh β' w W x v:=by
  induction h with
  |t x v h=>exact .t x v (h.mono (Ext.refl _ _) λb _=>A b)
  |agg cs s k _ y=>exact .agg cs s k (λi c u o z=>y i c u o z (vl (by simpa[V.ok] using p) o))
  |bJ cs s k _ y=>exact .bJ cs s k (λi c u o z=>y i c u o z (vl (by simpa[V.ok] using p) o))
  |ref id e b n=>exact .ref id e b (by rw[l id (by simpa[V.ok] using p)];exact n)
  |aK cells b e f n B o F=>exact .aK cells b e f n (λh=>B (A _ h)) o (λj x h=>(F j x h).mono (Ext.refl _ _) λb _=>A b)
  |a7 id gen a e len C b m ty r n G K L k Q=>exact .a7 id gen a e len C b m ty r (by rw[l id (by simpa[V.ok] using p)];exact n) G K L k Q
  |gT id gen a r n=>exact .gT id gen a r (by rw[l id (by simpa[V.ok] using p)];exact n)
  |kM id gen a e len v q g D n r=>exact .kM id gen a e len v q g D (by rw[l id (by simpa[V.ok] using p)];exact n) r
  |ct id gen a i e b r n=>exact .ct id gen a i e b r (by rw[l id (by simpa[V.ok] using p)];exact n)
  |k5 id gen a i e v q g D n r=>exact .k5 id gen a i e v q g D (by rw[l id (by simpa[V.ok] using p)];exact n) r
  |fn f cs s k _ y=>exact .fn f cs s k (λi c u o z=>y i c u o z (vl (by simpa[V.ok] using p) o))
  |cX v=>exact .cX v
def tW(u:Nat->Bool):List (Nat×Nat×V)->Bool
  | []=>true
  |h::a=>h.2.2.ok u&&tW u a
theorem FF{u:Nat->Bool}: ∀{a:List (Nat×Nat×V)} {i j:Nat} {v:V},tW u a=true->(i,j,v)∈a->v.ok u=true
  | [],_,_,_,_,h=>by cases h
  |h::a,i,j,v,b,hm=>by
    simp only[tW,Bool.and_eq_true] at b;rcases dI.1 hm with rfl|hm
    · exact b.1
    · exact FF b.2 hm
def E.ok(u:Nat->Bool):E->Bool
  | .cells cs=>gg u cs
  | .arr _ _ _ _=>true
  | .a6 _ _ _ _ a=>tW u a
def S.le(K:Ctx)(s s':S):Prop:= ∀β a w,Rel K β s a w-> ∃b,Rel K b s' a w
theorem S.le.refl(K:Ctx)(s:S):s.le K s:=λβ _ _ h=>⟨β,h⟩
theorem S.le.trans{a b c:S}(h:a.le K b)(k:b.le K c):a.le K c:=λβ x w i=>let ⟨e,l⟩:=h β x w i;k e x w l
def dq(v b:V):Prop:= ∀a w X u,bh a w X v u->bh a w X b u
theorem dq.refl(v:V):dq v v:=λ_ _ _ _ h=>h
theorem dq.of_eq{v c8:V}(h:v=c8):dq v c8:=h▸dq.refl v
theorem dq.nil:dq (.t .e5) (.t (.ay [])):=by intro β w X u h;cases h with|t _ _ h=>cases h;exact .t _ _ (.fB _ _)
theorem dq.cX(v:V):dq v .cX:=λ_ _ _ _ _=> .cX _
theorem dq.trans{a b c:V}(h:dq a b)(k:dq b c):dq a c:=λe w X u i=>k e w X u (h e w X u i)
def e8:List V->List V->Prop
  | [],[]=>True
  |v::b,c::a=>dq v c/\e8 b a
  |_,_=>False
theorem e8.refl: ∀a:List V,e8 a a
  | []=>trivial
  |v::a=>⟨dq.refl v,e8.refl a⟩
theorem e8.get: ∀{b a:List V},e8 b a->b.length=a.length/\ ∀(i:Nat) c,a[i]? =some c-> ∃v,b[i]? =some v/\dq v c
  | [],[],_=>⟨rfl,λi c h=>by simp at h⟩
  |v::b,c::a,h=>by
    obtain⟨k,l⟩:=e8.get h.2;refine⟨by simp[k],λi x e=>?_⟩;cases i with
    |zero=>simp at e;subst e;exact⟨v,rfl,h.1⟩
    |succ i=>simp at e;exact l i x e
  | [],_::_,h=>h.elim
  |_::_,[],h=>h.elim
theorem dq.agg{a Y:List V}(h:e8 a Y):dq (.agg a) (.agg Y):=by
  intro q w X u b;obtain⟨r,e⟩:=h.get;cases b with
  |agg _ k s l=>exact .agg _ k O λi c u m n=>by obtain⟨v,o,p⟩:=e i c m;exact p _ _ _ _ (l i v u o n)
theorem dq.bJ{a Y:List V}(h:e8 a Y):dq (.bJ a) (.bJ Y):=by
  intro q w X u b;obtain⟨r,e⟩:=h.get;cases b with
  |bJ _ k s l=>exact .bJ _ k O λi c u m n=>by obtain⟨v,o,p⟩:=e i c m;exact p _ _ _ _ (l i v u o n)
def iU(e a:E):Prop:=match e,a with
  | .cells cs,.cells b=>e8 cs b
  |e,a=>e=a
theorem iU.refl(e:E):iU e e:=by cases e with
  |cells cs=>exact e8.refl cs
  |arr=>rfl
  |a6=>rfl
theorem iU.va{e':E}(h:iU e e')(k:cy G w X n e):cy G w X n e':=by
  cases e with
  |cells cs=>
    cases e' with
    |cells o=>
      obtain⟨C,p⟩:=e8.get h;obtain⟨b,q,ty,r,s,D,x⟩:=k;exact⟨b,q,ty,r,s,O,λi c u y z=>by obtain⟨v,A,B⟩:=p i c y;exact B _ _ _ _ (x i v u A z)⟩
    |arr=>cases h
    |a6=>cases h
  |arr ty gen l a=>
    cases e' with
    |cells=>cases h
    |arr=>cases h;exact k
    |a6=>cases h
  |a6 F m gen a K=>
    cases e' with
    |cells=>cases h
    |arr=>cases h
    |a6=>cases h;exact k
def oz(t:Nat->V)(u:Nat->Bool)(a:Nat->V):Prop:= ∀i,a i= .cX\/(dq (t i) (a i)/\(a i).ok u=true)
def k0(H:Nat->Option E)(u:Nat->Bool)(b:Nat->Option E):Prop:= ∀id e,b id=some e->(∃a,H id=some a/\iU a e)/\u id=true/\e.ok u=true
def td(u a:Nat->Bool):Prop:= ∀id,a id=true->u id=true
def ma:Nat->(Nat->Bool)->Bool
  |0,_=>true
  |n+1,u=>u n&&ma n u
theorem Eh{u:Nat->Bool}: ∀{n:Nat},ma n u=true-> ∀id,id<n->u id=true
  |0,_,_,h=>bt h (qI _)
  |n+1,h,id,hid=>by
    simp[ma] at h;by_cases e:id=n
    · subst e;exact h.1
    · exact Eh h.2 id O
def o8:Nat->V:=λ_=> .cX
def og:Nat->Option E:=λ_=>none
def gf:Nat->Bool:=λ_=>false
theorem oz.nil(t:Nat->V)(u:Nat->Bool):oz t u o8:=λ_=> .inl rfl
theorem oz.aQ{t:Nat->V}{u:Nat->Bool}{r:Nat->V}{d:Nat}{v:V}(h:dq (t d) v)(b:v.ok u=true)(c:oz t u r):oz t u (Lift.aQ r d v):=by
  intro i;by_cases a:i=d
  · subst a;rw[bQ];exact .inr ⟨h,b⟩
  · rw[bR _ _ _ _ a];exact c i
theorem k0.nil(H:Nat->Option E)(u:Nat->Bool):k0 H u og:=λ_ _ h=>by simp[og] at h
theorem k0.aQ{H:Nat->Option E}{u:Nat->Bool}{r:Nat->Option E}{d:Nat}(b:E)(h:H d=some b)(k:iU b e)(l:u d=true)(m:e.ok u=true)(n:k0 H u r):k0 H u (Lift.aQ r d (some e)):=by
  intro i e' a;by_cases c:i=d
  · subst c;rw[bQ] at a;cases a;exact⟨⟨b,h,k⟩,l,m⟩
  · rw[bR _ _ _ _ c] at a;exact n i e' a
theorem td.nil(u:Nat->Bool):td u gf:=λ_ h=>by simp[gf] at h
theorem td.aQ{u r:Nat->Bool}{d:Nat}(h:u d=true)(c:td u r):td u (Lift.aQ r d true):=by
  intro i a;by_cases b:i=d
  · subst b;exact h
  · rw[bR _ _ _ _ b] at a;exact c i a
theorem cy.under{u:Nat->Bool}(h:cy β w X k e)(C: ∀b,W b->X b)
    (a: ∀k,u k=true->β' k=β k) (l:u k=true) (G:e.ok u=true) (K: ∀b,β'.n k b↔β.n k b:=by exact λ_=>Iff.rfl):cy β' w W k e:=by
  cases e with
  |cells cs=>
    obtain⟨b,r,ty,p,q,s,y⟩:=h;exact⟨b,r,ty,by rw[a k l];exact p,q,s,λi c u D Q=>(y i c u D Q).under C a (vl G D)⟩
  |arr ty gen L z=>
    refine⟨h.1,?_⟩;rcases h.2 with ⟨p,q⟩|⟨b,r,p,q,s,y,A⟩
    · exact .inl ⟨by rw[a k l];exact p,q⟩
    · exact .inr ⟨b,r,by rw[a k l];exact p,q,s,y,λi j o x u aH a2 a3=>(A i j o x u aH a2 a3).mono (Ext.refl _ _) λb _=>C b⟩
  |a6 N m gen z S=>
    refine⟨h.1,?_⟩;rcases h.2 with ⟨p,q,R⟩|⟨b,r,B,p,q,s,y,A,f,t,I⟩
    · exact .inl ⟨by rw[a k l];exact p,q,λc D=>R c ((K c).1 D)⟩
    · refine .inr ⟨b,r,B,by rw[a k l];exact p,q,s,y,λi j o x u aH a2 a3=>⟨λv F=>⟨((A i j o x u aH a2 a3).1 v F).1.under C a (FF G F),((A i j o x u aH a2 a3).1 v F).2⟩,
        λM=>((A i j o x u aH a2 a3).2 M).mono (Ext.refl _ _) (λb _=>C b) λ_ _=>rfl⟩,f,t,λc=>(K c).trans (I c)⟩
def cut(β:Map)(u:Nat->Bool):Map:=⟨λid=>bif u id then β id else none,λid b=>u id=true/\β.n id b⟩
theorem AY{u:Nat->Bool}{b:Nat}(h:At (cut G u) n b):At G n b:=by
  rcases h with ⟨g,h⟩|h
  · refine .inl ⟨g,?_⟩;by_cases a:u n=true
    · simpa[cut,a] using h
    · simp[cut,a] at h
  · exact .inr h.2
theorem wR{u:Nat->Bool}{id:Nat}(h:u id=true):cut G u id=G id:=by simp[cut,h]
theorem Ek{s s':S}(c:k0 s.H s'.u s'.H): ∀b,own K (cut β s'.u) s'.H b->own K β s.H b:=by
  rintro b (h|⟨id,i,k⟩)
  · exact .inl h
  · cases a:s'.H id with
    |none=>exact bt a i
    |some e=>
      obtain⟨m,l,_⟩:=(c id e a).1;exact .inr ⟨id,by rw[l];simp,AY k⟩
theorem Rel.cut{s s':S}{a:Act}(l:Rel K β s a w)(q:oz s.t s'.u s'.t)(p:k0 s.H s'.u s'.H)(n:ma K.c6 s'.u=true):Rel K (cut β s'.u) s' a w:=by
  have c:=Ek (K:=K) (β:=β) p;refine {l with base:= ?_,low:=Eh n,dB:= ?_,dX:= ?_,inj:= ?_,fresh:= ?_,heap:= ?_,cU:= ?_}
  · exact l.base.keep λid hid=>wR (Eh n id hid)
  · intro id hid;simp[Lift.cut,hid]
  · intro id b hid h;rw[h.1] at hid;cases hid
  · intro id o b m k;exact l.inj id o b (AY m) (AY k)
  · intro id b h;exact l.fresh id b (AY h)
  · intro id e r;obtain⟨⟨x,m,n⟩,k,y⟩:=p id e r;exact⟨k,(n.va (l.heap id x m).2).under c (λ_ h=>wR h) k y λ_=>⟨λh=>h.2,λh=>⟨k,h⟩⟩⟩
  · intro i;rcases q i with h|⟨m,k⟩
    · rw[h];exact .cX _
    · exact(m _ _ _ _ (l.cU i)).under c (λ_ h=>wR h) k
theorem acJ{s s':S}(a:oz s.t s'.u s'.t)(b:k0 s.H s'.u s'.H)(_hu:td s.u s'.u)(c:ma K.c6 s'.u=true):s.le K s':=
  λe _ _ h=>⟨Lift.cut e s'.u,h.cut a b c⟩
def zS:Value->V
  | .bool b=> .t (.bool b)
  | .int k n=> .t (.int k n)
  | .string s=> .t (.str s.data.toList)
  | .slice none 0 0=> .t .e5
  | .pointer none=> .t .gF
  | .nilIface=> .t .gh
  | .nilFunc=> .t .mX
  |_=> .cX
def gB:Value->V
  | .agg cs=> .agg (cs.toList.map zS)
  |v=>zS v
def S.get(s:S):Operand->V
  | .tmp t=>s.t t
  | .const v=>gB v
  | .func f=> .fn f []
  | .global _=> .cX
theorem KX(a:Map)(w:World)(X:Nat->Prop)(v:Value):bh a w X (zS v) v:=by
  unfold zS;split
  · exact .t _ _ (.bool _)
  · exact .t _ _ (.int _ _)
  · rename_i s;have h:=cL.str (w:=w) (X:=X) s.data.toList;exact .t _ _ (by simpa using h)
  · exact .t _ _ .e5
  · exact .t _ _ .gF
  · exact .t _ _ .gh
  · exact .t _ _ .mX
  · exact .cX _
theorem yv(β:Map)(w:World)(X:Nat->Prop)(v:Value):bh β w X (gB v) v:=by
  unfold gB;split
  · rename_i cs;exact .agg _ _ a1 (λi c u a e=>by
      simp only[List.getElem?_map,Array.getElem?_toList,Option.map_eq_some_iff] at a;obtain⟨k,b,h⟩:=a;rw[e] at b;cases b;rw[<-h];exact KX _ _ _ _)
  · exact KX _ _ _ _
def dh(β:Map)(w:World)(X:Nat->Prop):List V->List Value->Prop
  | [],[]=>True
  |v::a,u::b=>bh β w X v u/\dh β w X a b
  |_,_=>False
theorem dh.mono{β β':Map}{w w':World}{X W:Nat->Prop}: ∀{c:List V} {i:List Value},dh β w X c i->Ext X w w'->(∀b,b<w.heap.size->W b->X b)->
    de β β'->Shaped β w w'->dh β' w' W c i
  | [],[],_,_,_,_,_=>trivial
  |_::_,_::_,h,e,k,a,l=>⟨h.1.mono e k a l,dh.mono h.2 e k a l⟩
  | [],_::_,h,_,_,_,_=>h.elim
  |_::_,[],h,_,_,_,_=>h.elim
theorem dh.le: ∀{β:Map} {w:World} {X:Nat->Prop} {b a:List V} {c:List Value},dh β w X b c->e8 b a->dh β w X a c
  |_,_,_,[],[],[],_,_=>trivial
  |_,_,_,_::_,_::_,_::_,h,k=>⟨k.1 _ _ _ _ h.1,dh.le h.2 k.2⟩
  |_,_,_,[],_::_,_,_,k=>k.elim
  |_,_,_,_::_,[],_,_,k=>k.elim
  |_,_,_,[],[],_::_,h,_=>h.elim
  |_,_,_,_::_,_::_,[],h,_=>h.elim
theorem Rel.get{s:S}{a:Act}(h:Rel K β s a w)(x:Operand):bh β w (own K β s.H) (s.get x) (a.eval x):=by
  cases x with
  |tmp t=>exact h.cU t
  |const v=>exact yv _ _ _ v
  |func f=>exact .fn f [] #[] rfl (λi c u b _=>by simp at b)
  |global g=>exact .cX _
theorem Rel.nJ{s:S}{a:Act}(h:Rel K β s a w): ∀b:List Operand,dh β w (own K β s.H) (b.map s.get) (b.map a.eval)
  | []=>trivial
  |x::b=>⟨h.get x,h.nJ b⟩
def b5(P:Program)(H:Nat->Option E)(o:Oper)(a:List V)(v:V):Prop:=
  ∀(b:Map) (w:World) (X:Nat->Prop) (c:Operand->Value),(∀id e,H id=some e->cy b w X id e)->
    dh b w X a (o.op.operands.toList.map c)-> ∃u,(execOp c o).run P w= .ok (.value u) w/\bh b w X v u
def dL(K:Ctx)(o:Oper)(s h:S):Prop:=
  ∀i a w next Q,Rel K i s a w->(∀b c e,Rel K b h c e->next c e)->o.wp K.P a w next Q
def S.put(s:S)(d:Option Tmp)(v:V):S:=match d with
  |some d=>{s with t:=aQ s.t d v}
  |none=>s
theorem Rel.put{s:S}{a:Act}(h:Rel K β s a w)(d:Option Tmp)(e: ∀i,d=some i->Nat.blt i K.nt=true){v:V}(k:bh β w (own K β s.H) v u):
    Rel K β (s.put d v) (a.put d u) w:=by
  cases d with
  |none=>exact h
  |some d=>
    have b:d<a.tmps.size:=by rw[h.nt];have:=e d rfl;simpa[Nat.blt_eq] using this
    refine {h with cU:= ?_,nt:= ?_}
    · intro i;simp only[Act.put,S.put];by_cases c:i=d
      · subst c;rw[bQ];simp only[Array.getD_eq_getD_getElem?,Array.getElem?_setIfInBounds_self_of_lt b,Option.getD_some];exact k
      · rw[bR _ _ _ _ c];simp only[Array.getD_eq_getD_getElem?,Array.getElem?_setIfInBounds_ne (Ne.symm c)]
        have:=h.cU i;simpa only[Array.getD_eq_getD_getElem?] using this
    · simpa[Act.put] using h.nt
theorem VG{o:Oper}{s:S}{vals:List V}{v:V}(l: ∀i,o.dst=some i->Nat.blt i K.nt=true)(m:e8 (o.op.operands.toList.map s.get) vals)(h:b5 K.P s.H o vals v):
    dL K o s (s.put o.dst v):=by
  intro c a w next Q k n
  obtain⟨u,b,p⟩:=h c w (own K c s.H) a.eval (λid e q=>(k.heap id e q).2) ((k.nJ _).le m);unfold Oper.wp;rw[b];exact n c _ w (k.put o.dst l p)
section nl
variable {P:Program}{H:Nat->Option E}{d:Option Tmp}{ty:TypeId}{pos:String}{af:Array Edge}{g:Option (Nat×Bool)}
theorem acs(x:Operand)(v:V):b5 P H ⟨d,.move x,ty,pos,af,g⟩ [v] v:=by intro c w X a _ b;exact⟨a x,rfl,b.1⟩
theorem Ze(x:Operand)(v:V):b5 P H ⟨d,.assign x,ty,pos,af,g⟩ [v] v:=by intro c w X a _ b;exact⟨a x,rfl,b.1⟩
theorem mV{b:Bool}(h:bh G w X (.t (.bool b)) u):u= .bool b:=by cases h with|t _ _ h=>cases h with|bool=>rfl
theorem du{k:IntKind}{n:Int}(h:bh G w X (.t (.int k n)) u):u= .int k n:=by cases h with|t _ _ h=>cases h with|int=>rfl
theorem gO{l:List UInt8}(h:bh G w X (.t (.str l)) u):u= .string ⟨l.toArray⟩:=by cases h with|t _ _ h=>cases h with|str=>rfl
theorem VI(c x y:Operand)(v b:V):b5 P H ⟨d,.pick c x y,ty,pos,af,g⟩ [.t (.bool true),v,b] v:=by
  intro h w X e _ a;refine⟨e x,?_,a.2.1⟩
  have:=mV a.1;simp[execOp,this,asBool]
theorem UM(c x y:Operand)(v c8:V):b5 P H ⟨d,.pick c x y,ty,pos,af,g⟩ [.t (.bool false),v,c8] c8:=by
  intro e w X b _ a;refine⟨b y,?_,a.2.2.1⟩
  have:=mV a.1;simp[execOp,this,asBool]
theorem adH(x y:Operand)(t b:TypeId)(k:IntKind)(m n:Int):b5 P H ⟨d,.binOp .add t x y b,ty,pos,af,g⟩ [.t (.int k m),.t (.int k n)] (.t (.int k (k.wrap (m+n)))):=by intro c w X e _ a;refine⟨.int k (k.wrap (m+n)),?_,.t _ _ (.int _ _)⟩;simp[execOp,du a.1,du a.2.1,eqGuard,binOp,Op.intArith]
end nl
end
section
def cz(K:Ctx)(c:Code)(s:S)(Q:Exit->S->Prop):Prop:=
  ∀l a w d,Rel K l s a w->(∀e h b i k,Q e h->Rel K b h i k->d e i k)->c.wp K.P d a w
def pR(K:Ctx)(b:Array Oper)(l:List Oper)(s:S)(Q:S->Prop):Prop:=
  ∀k a w d,Rel K k s a w->(∀e c h i,Q e->Rel K c e h i->d .normal h i)->wpList K.P b d l a w
def pV(next:S->Prop)(Q:Exit->S->Prop):Exit->S->Prop
  | .normal,s=>next s
  |e,s=>Q e s
def w3(b:Nat)(Q:Exit->S->Prop):Exit->S->Prop
  | .exit a,s=>bif Nat.beq a b then Q .normal s else Q (.exit a) s
  |e,s=>Q e s
def A7(a:S->Prop)(Q:Exit->S->Prop):Exit->S->Prop
  | .normal,s=>a s
  |e,s=>Q e s
variable {P:Program}{c x y:Code}{a:Act}{w:World}{b:Bool}{n t:Nat}{β:Map}{X:Nat->Prop}
theorem Ut{R:Type}{Q:Exit->Act->World->Prop}(I:R->Act->World->Prop)(lJ :R->Nat)(x:R)(G:I x a w)
    (p: ∀x a w,I x a w->c.wp P (Exit.then (λz w'=> ∃y,I y z w'/\ lJ y< lJ x) Q) a w):(Code.loop c).wp P Q a w:=by
  intro b k cs;have D: ∀n x a w,lJ x=n->I x a w->
      ∃e z w',Q e z w'/\Arrives P (lone (b.at a (.code c:: .inLoop c::k)) cs w) b k cs e z w':=by
    intro n;induction n using Nat.strongRecOn with
    |_ n H=>
      intro x a w L W;obtain⟨e,h,i,o,d⟩:=p x a w W b (.inLoop c::k) cs;cases e with
      |normal=>
        obtain⟨y,q,F⟩:=o;obtain⟨A,B,C,r,m⟩:=H (lJ y) (L▸F) y h i rfl q;exact⟨A,B,C,r,.of_steps (Steps.trans d (.one step_inLoop)) m⟩
      |exit id=>exact⟨_,h,i,o,.pass (x:= .inLoop c) rfl (λ_ _=> .inl a1) d⟩
      |goto l=>exact⟨_,h,i,o,.pass (x:= .inLoop c) rfl (λ_ _=> .inl a1) d⟩
      |ret=>exact⟨_,h,i,o,.pass (x:= .inLoop c) rfl (λ_ _=> .inl a1) d⟩
      |panic X=>exact⟨_,h,i,o,.pass (x:= .inLoop c) rfl (λ_ _=> .inl a1) d⟩
      |outgrown=>exact⟨_,h,i,o,.pass (x:= .inLoop c) rfl (λ_ _=> .inl a1) d⟩
  obtain⟨e,z,w',o,d⟩:=D _ x a w rfl G;exact⟨e,z,w',o,.of_steps (.one step_loop) d⟩
section rules
variable {K:Ctx}{s:S}{Q:Exit->S->Prop}
theorem vT{E:Exit->S->Prop}(h:cz K c s Q)(i: ∀e s,Q e s->E e s):cz K c s E:=
  λk a w l m n=>h k a w l m λe d b o p q r=>n e d b o p (i e d q) r
theorem u3{b:S}(i:s.le K b)(h:cz K c b Q):cz K c s Q:=
  λk a w l m n=>let ⟨d,e⟩:=i k a w m;h d a w l e n
theorem Ar(h:cz K x s (pV (λm=>cz K y m Q) Q)):cz K (.seq x y) s Q:=by
  intro n a w o p d;refine wp_seq (h n a w _ p ?_);intro e z k q r i b;cases e with
  |normal=>exact i k q r o b d
  |exit id=>exact d _ _ _ _ _ i b
  |goto l=>exact d _ _ _ _ _ i b
  |ret=>exact d _ _ _ _ _ i b
  |panic c=>exact d _ _ _ _ _ i b
  |outgrown=>exact d _ _ _ _ _ i b
theorem Zf(h:Q .normal s):cz K .skip s Q:=λb a w _ c d=>wp_skip (d _ _ b a w h c)
theorem aa7(h:Q .ret s):cz K .ret s Q:=λb a w _ c d=>wp_ret (d _ _ b a w h c)
theorem Zh(h:Q (.exit n) s):cz K (.exit n) s Q:=λb a w _ c d=>wp_exit (d _ _ b a w h c)
theorem jC{c:Operand}(l:s.get c= .t (.bool b))(m:b=true->cz K x s Q)(n:b=false->cz K y s Q):cz K (.cond c x y) s Q:=by
  intro e a w i d k;have h:=d.get c;rw[l] at h;have aV:=mV h;cases b with
  |true=>exact wp_cond_true aV (m rfl e a w i d k)
  |false=>exact wp_cond_false aV (n rfl e a w i d k)
theorem Ya(h:cz K c s (w3 n Q)):cz K (.block n c) s Q:=by
  intro m a w r o k;refine wp_block (h m a w _ o ?_);intro e x p y z i b;cases e with
  |exit d=>
    by_cases hid:d=n
    · subst hid;simp only[w3,Exit.inBlock,if_true] at*;rw[show Nat.beq d d=true by simp,cond_true] at i;exact k _ _ _ _ _ i b
    · simp only[w3,Exit.inBlock] at*;rw[aT hid];rw[show Nat.beq d n=false from by cases q:Nat.beq d n with
        |false=>rfl
        |true=>exact bt (cH q) hid,cond_false] at i
      exact k _ _ _ _ _ i b
  |normal=>exact k _ _ _ _ _ i b
  |goto l=>exact k _ _ _ _ _ i b
  |ret=>exact k _ _ _ _ _ i b
  |panic c=>exact k _ _ _ _ _ i b
  |outgrown=>exact k _ _ _ _ _ i b
theorem Zg{ι:Type}(I:ι->S)(p:ι->Prop)(lJ :ι->Nat)(x:ι)(H:p x)(L:s.le K (I x))
    (d: ∀x,p x->cz K c (I x) (A7 (λG=> ∃y,p y/\ lJ y< lJ x/\G.le K (I y)) Q)):cz K (.loop c) s Q:=by
  intro R a w t W k;obtain⟨h,n⟩:=L R a w W;refine Ut (λy X f=>p y/\ ∃h,Rel K h (I y) X f) lJ x ⟨H,h,n⟩ ?_;intro y aH g ⟨o,q,r⟩;refine d y o q aH g _ r ?_;intro e G A a2 j i b;cases e with
  |normal=>
    obtain⟨z,B,C,m⟩:=i;obtain⟨D,F⟩:=m A a2 j b;exact⟨z,⟨B,D,F⟩,C⟩
  |exit id=>exact k _ _ _ _ _ i b
  |goto l=>exact k _ _ _ _ _ i b
  |ret=>exact k _ _ _ _ _ i b
  |panic c=>exact k _ _ _ _ _ i b
  |outgrown=>exact k _ _ _ _ _ i b
theorem Zi{b:Array Oper}{Q:S->Prop}(h:Q s):pR K b [] s Q:=λc a w _ d e=>e s c a w h d
theorem Rel.bool(i:Rel K β s a w)(h:s.t t= .t (.bool b)):a.tmps[t]? =some (.bool b):=by
  have d:=i.cU t;rw[h] at d;have c:=mV d;rw[qL] at c;cases e:a.tmps[t]? with
  |none=>rw[e] at c;simp[undef] at c
  |some x=>rw[e] at c;simp at c;rw[c]
theorem MR{G:Map}:bh G w X (.bJ []) undef:= .bJ [] #[] rfl λi c u h _=>by simp at h
theorem Rel.ahP(e:Rel K β s a w){ops:Array Oper}{j:Nat}{want:Bool}(m:(ops[j]?).bind (·.dst)=some t)(h:s.t t= .bJ []):yielded ops a.tmps j≠some want:=by
  have c:=e.cU t;rw[h] at c;have d:a.tmps.getD t undef= .tuple #[]:=by
    generalize a.tmps.getD t undef=y at c;cases c with
    |bJ _ i k _=>
      have:i= #[]:=by simpa using k
      rw[this]
  have n: ∀b,a.tmps[t]? ≠some (.bool b):=by
    intro b l;rw[qL,l] at d;simp at d
  unfold yielded
  grind
def gE:Map:=⟨λ_=>none,λ_ _=>False⟩
theorem FG{b:Nat}(h:At gE n b):False:=by
  rcases h with ⟨_,h⟩|h
  · simp[gE] at h
  · exact h
def En(P:Program)(G:eS)(f:FuncId)(args:List V)(r:V):Prop:=
  ∀(w:World) (X:Nat->Prop) (a:List Value),G.ok w->(∀b,X b->b<w.heap.size)->dh gE w X args a->
    Calls P f a.toArray w λe c=> ∃u,e= .returned u/\Ext (λ_=>False) w c/\bh gE c X r u
theorem bh.any{W:Nat->Prop}{x:V}{v:Value}(h:bh gE w X x v)(a: ∀b,W b->X b):bh β w W x v:=
  h.mono (Ext.refl _ _) (λb _=>a b) (λ_ _ _ h=>by simp[gE] at h) (Shaped.refl _ _)
theorem dh.Jd: ∀{β:Map} {w:World} {X:Nat->Prop} {a:List V} {c:List Value},dh β w X a c->gg gf a=true->dh gE w X a c
  |_,_,_,[],[],_,_=>trivial
  |_,_,_,_::_,_::_,h,b=>by
    simp[gg] at b;exact⟨h.1.under (u:=gf) (λ_ h=>h) (λ_ h=>by simp[gf] at h) b.1,dh.Jd h.2 b.2⟩
  |_,_,_,[],_::_,h,_=>h.elim
  |_,_,_,_::_,[],h,_=>h.elim
theorem Rel.grow{w':World}(h:Rel K β s a w)(e:Ext (λ_=>False) w w'):Rel K β s a w':=by
  have c:Ext (own K β s.H) w w':=e.weaken λ_ _ h=>h.elim;refine {h with ext:=h.ext.trans (e.weaken λ_ _ h=>h.elim),iq:=h.iq.ext h.ext.size e,fresh:= ?_,heap:= ?_,cU:= ?_}
  · intro id b d;exact⟨(h.fresh id b d).1,lF (h.fresh id b d).2 e.size⟩
  · intro id k l;obtain⟨m,n⟩:=h.heap id k l;exact⟨m,n.mono c (λ_ _ h=>h) (de.refl _) (λ_ h=>h) (p8 e) λb d=>e.keep b (h.fresh id b d).2 λh=>h⟩
  · intro i;exact(h.cU i).mono c (λ_ _ h=>h) (de.refl _) (p8 e)
theorem dL.call{o:Oper}{f:FuncId}{d:Func}{c:Array Operand}{k:Array TypeId}{vals:List V}{r:V}
    (A:o.op= .call {callee:= .value (.func f),args:=c,argTypes:=k}) (B:K.P.funcs[f]? =some d) (C:(d.name== "runtime.NumGoroutine")=false) (q:d.body.isNone=false)
    (D: ∀i,o.dst=some i->Nat.blt i K.nt=true) (F:e8 (c.toList.map s.get) vals) (L:gg gf vals=true) (h:En K.P K.G f vals r):dL K o s (s.put o.dst r):=by
  intro x a w next Q m R
  have y:d.name≠ "runtime.NumGoroutine" :=by simpa using C
  have z:d.body≠none:=by intro e;simp[e] at q
  have n:(execOp a.eval o).run K.P w= .ok (.enter f (c.map a.eval)) w:=by
    simp[execOp,A,resolve,Deferred.ofValue,Act.eval,invoke,callFunc,B,y,z]
  unfold Oper.wp;rw[n,Oper.upon_enter];have l:=(dh.le (m.nJ c.toList) F).Jd L;have W: ∀b,own K x s.H b->b<w.heap.size:=by
    rintro b (X|⟨id,_,q⟩)
    · exact lF (m.ia b X).1 m.ext.size
    · exact(m.fresh id b q).2
  have bB:=h w (own K x s.H) _ m.BA W l;have g:(List.map a.eval c.toList).toArray=c.map a.eval:=by rw[<-vr]
  rw[g] at bB;refine bB.mono ?_;rintro e j ⟨u,rfl,p,t⟩;exact R x _ j ((m.grow p).put o.dst D (t.any λ_ h=>h))
def s3:List V->Nat->(Nat->V)
  | [],_=>o8
  |v::a,i=>aQ (s3 a (i+1)) i v
theorem D6{G:Map}{w:World}{X:Nat->Prop}: ∀(a:List V) (b:List Value) (i:Nat),dh G w X a b-> ∀j,bh G w X (s3 a i (i+j)) (b.getD j undef)
  | [],_,_,_,_=> .cX _
  |v::a,u::b,i,h,0=>by
    rw[qO,s3,bQ];exact h.1
  |v::a,u::b,i,h,j+1=>by
    rw[s3,bR _ _ _ _ O,show i+(j+1)=(i+1)+j by omega];simpa using D6 a b (i+1) h.2 j
  |_::_,[],_,h,_=>h.elim
theorem dh.length: ∀{β:Map} {w:World} {X:Nat->Prop} {vs:List V} {a:List Value},dh β w X vs a->a.length=vs.length
  |_,_,_,[],[],_=>rfl
  |_,_,_,_::_,_::_,h=>by simp[dh.length h.2]
  |_,_,_,[],_::_,h=>h.elim
  |_,_,_,_::_,[],h=>h.elim
def Ctx.pure(P:Program)(G:eS)(w:World)(X:Nat->Prop)(nt:Nat):Ctx:={P,G,w0:=w,X,c6:=0,hA:=gE,nt}
def start(args:List V):S:={t:=s3 args 0,H:=og,u:=gf}
theorem Rel.start{G:eS}{nt:Nat}{args:List V}{a:List Value}(e:G.ok w)(k: ∀b,X b->b<w.heap.size)(h:dh gE w X args a)(n:a.length<=nt):
    Rel (Ctx.pure P G w X nt) gE (Lift.start args) {tmps:=a.toArray++Array.replicate (nt-a.toArray.size) undef,defers:=[]} w:=by
  have d: ∀b,¬(Ctx.pure P G w X nt).M b:=by rintro b ⟨id,h,_⟩;simp[Ctx.pure] at h
  refine {ext:=Ext.refl _ _,nK:=e,nS:=λb h=>bt h (d b),ia:=λb h=>⟨k b h,d b⟩,base:=jW.refl _ _ _,iq:=Shaped.refl _ _,low:=λ_ h=>bt h (qI _),dB:=λ_ _=>rfl,
           dX:=λ_ _ _ h=>h,qi:=λ_ _ _ h=>(FG h).elim,inj:=λ_ _ _ h=>(FG h).elim,fresh:=λ_ _ h=>(FG h).elim,heap:=λ_ _ h=>by simp[Lift.start,og] at h,cU:= ?_,nt:= ?_,defers:=rfl}
  · intro i;have c:=D6 args a 0 h i;rw[dn] at c;have l:(a.toArray++Array.replicate (nt-a.toArray.size) undef).getD i undef=a.getD i undef:=by
      simp only[Array.getD_eq_getD_getElem?,List.getD_eq_getElem?_getD,Array.getElem?_append]
      grind
    simp only[l];refine c.mono (Ext.refl _ _) ?_ (de.refl _) (Shaped.refl _ _);rintro b _ (m|⟨id,c,_⟩)
    · exact m
    · simp[Lift.start,og] at c
  · simp[Ctx.pure];omega
end rules
end
set_option linter.unusedVariables false
set_option linter.unusedSimpArgs false
section
def b4(P:Program)(t:TypeId)(u:TypeDesc)(z:Value)(b a:Nat):Prop:=
 P.underlying t=some u/\ ∃i,P.info? t=some i/\i.zero=some z/\i.size=b/\i.bytes=a
variable {n b i k gen m:Nat}{a:Act}{v:V}{G β:Map}{X:Nat->Prop}{q:Option Nat}
theorem b4.of{P:Program}{t:TypeId}{u:TypeDesc}{z:Value}{bytes:Nat}(h:P.underlying t=some u)(a:(P.info? t).map (λi=>(i.zero,i.size,i.bytes))=some (some z,n,bytes)):b4 P t u z n bytes:=by
 cases b:P.info? t with
 |none=>rw[b] at a;cases a
 |some i=>
  rw[b] at a;simp only[Option.map_some,Option.some.injEq,Prod.mk.injEq] at a;exact⟨h,i,b,a.1,a.2.1,a.2.2⟩
def j2:TypeDesc->Bool
 | .struct _=>true
 | .array _ _=>true
 |_=>false
section runs
variable {P:Program}{t:TypeId}{u:TypeDesc}{z:Value}{size bytes:Nat}(w:World)
theorem b4.CG(h:b4 P t u z size bytes):(isAgg t).run P w= .ok (j2 u) w:=by obtain⟨a,_⟩:=h;simp only[isAgg,Sem.run_bind,run_underlying a,Result.andThen_ok];cases u<;>rfl
theorem b4.run_sizeOf(h:b4 P t u z size bytes):(sizeOf t).run P w= .ok size w:=by obtain⟨_,i,a,c,b,e⟩:=h;simp[sizeOf,typeInfo,a,b]
theorem b4.su(h:b4 P t u z size bytes):(zeroValue t).run P w= .ok z w:=by obtain⟨_,i,a,b,c,e⟩:=h;simp[zeroValue,typeInfo,a,b]
theorem b4.CH(h:b4 P t u z size bytes)(b:j2 u=false){a:Addr}{v:Value}(c:w.cell? a=some v):(loadVar t a).run P w= .ok v w:=by simp only[loadVar,Sem.run_bind,h.CG,Result.andThen_ok,b];simp[c]
theorem iE(b o i:Nat):(⟨b,o,none⟩:Addr).add i=⟨b,o+i,none⟩:=by unfold Addr.add;split<;>simp_all
theorem b4.CI(h:b4 P t u z size bytes)(a:j2 u=true){o:Nat}{f:Nat->Value}(c: ∀j,j<size->w.cell? ⟨b,o+j,none⟩=some (f j)):
  (loadVar t ⟨b,o,none⟩).run P w= .ok (.agg ((List.range size).map f).toArray) w:=by simp only[loadVar,Sem.run_bind,h.CG,h.run_sizeOf,Result.andThen_ok,a,if_true];rw[run_loadCells w ⟨b,o,none⟩ size f λj e=>by rw[iE];exact c j e];rfl
end runs
section nl
variable {P:Program}{H:Nat->Option E}{d:Option Tmp}{ty:TypeId}{pos:String}{af:Array Edge}{g:Option (Nat×Bool)}
variable {t:TypeId}{u:TypeDesc}{z:Value}{size bytes:Nat}
theorem sX{w:World}{u:Value}(h:bh G w X (.ref i n) u): ∃b,G i=some (some b,0)/\u= .pointer (some ⟨b,n,none⟩):=by cases h with|ref _ _ b a=>exact⟨b,a,rfl⟩
theorem m9{w:World}{u:Value}(h:bh G w X (.ct k gen n i m) u)(a:G k=some (q,gen)): ∃b,q=some b/\u= .pointer (some ⟨b,i*n+m,none⟩):=by
 cases h with
 |ct _ _ _ _ _ b e c=>rw[c] at a;cases a;exact⟨b,rfl,rfl⟩
 |k5 _ _ _ _ _ _ l g o c e=>rw[c] at a;cases a;omega
theorem iK{w:World}{c:TypeId}{a:List (List T)}(h:cy G w X i (.arr c gen n a)): ∃q,G i=some (q,gen):=by
 rcases h.2 with ⟨e,_⟩|⟨b,k,e,_⟩
 ·exact⟨_,e⟩
 exact⟨_,e⟩
theorem G0{w:World}{a:List T}{u:Value}(h:bh G w X (.aK a) u): ∃(b c:Nat) (f:Nat->Value),u= .pointer (some ⟨b,c,none⟩)/\b<w.heap.size/\ ¬X b/\
  (∀j,j<a.length->w.cell? ⟨b,c+j,none⟩=some (f j))/\ ∀(j:Nat) (x:T),a[j]? =some x->cL w X x (f j):=by cases h with|aK _ b c f e i k l=>exact⟨b,c,f,rfl,e,i,k,l⟩
theorem aa4(x:Operand)(i a:Nat)(k:List V)(c:V)(p:b4 P t u z size bytes)(q:j2 u=false)(r:H i=some (.cells k))(m:k[a]? =some c):
  b5 P H ⟨d,.load t x,ty,pos,af,g⟩ [.ref i a] c:=by
 intro L w X Q y A;obtain⟨b,B,C⟩:=sX A.1;obtain⟨R,l,D,n,F,o,G⟩:=y i _ r;rw[B] at n;cases n;have h:a<k.length:=(bM.1 m).1;have e:w.cell? ⟨b,a,none⟩=some l[a]:=by simp[World.cell?,F,o,h]
 refine⟨l[a],?_,G a c l[a] m (by simp[o,h])⟩;simp[execOp,C,Instr.loadAt,Instr.sureAddr,p.CH w q e]
theorem aa3(x:Operand)(k a:Nat)(h:List V)(n:b4 P t u z size bytes)(o:j2 u=true)(p:H k=some (.cells h))(q:Nat.ble (a+size) h.length=true):
  b5 P H ⟨d,.load t x,ty,pos,af,g⟩ [.ref k a] (.agg ((h.drop a).take size)):=by
 intro L w X Q r y;obtain⟨b,A,B⟩:=sX y.1;obtain⟨R,l,C,m,D,W,f⟩:=r k _ p;rw[A] at m;cases m;have F:a+size<=h.length:=eB q;have e: ∀j,j<size->w.cell? ⟨b,a+j,none⟩=some (l.getD (a+j) undef):=λj I=>by
  have:a+j<l.size:=O
  simp[World.cell?,D,this]
 refine⟨_,by simp[execOp,B,Instr.loadAt,Instr.sureAddr,n.CI w o e];rfl,?_⟩;refine .agg _ _ bX (λi c v G M=>?_)
 grind
theorem WG(x:Operand)(c:T)(r:List T)(a:b4 P t u z size bytes)(e:j2 u=false):b5 P H ⟨d,.load t x,ty,pos,af,g⟩ [.aK (c::r)] (.t c):=by intro o w X p q h;obtain⟨b,i,f,k,y,A,l,m⟩:=G0 h.1;have n:=l 0 a1;refine⟨f 0,?_,.t _ _ (m 0 c a1)⟩;simp only[execOp,k,Instr.loadAt,Instr.sureAddr,Sem.run_bind,Sem.run_pure,Result.andThen_ok];rw[a.CH w e (v:=f 0) (by simpa using n)];rfl
theorem WE(x:Operand)(h:List T)(n:b4 P t u z size bytes)(o:j2 u=true)(B:size<=h.length):
  b5 P H ⟨d,.load t x,ty,pos,af,g⟩ [.aK h] (.agg ((h.take size).map .t)):=by
 intro C w X D F p;obtain⟨b,q,f,r,G,L,k,y⟩:=G0 p.1;refine⟨.agg ((List.range size).map f).toArray,?_,.agg _ _ bX λi c v a l=>?_⟩
 ·simp only[execOp,r,Instr.loadAt,Instr.sureAddr,Sem.run_bind,Sem.run_pure,Result.andThen_ok];rw[n.CI w o (f:=f) λj Q=>k j O];rfl
 have m:i<size:=by
  have:=(bM.1 a).1;simp at this;omega
 rw[er,List.getElem?_take_of_lt m] at a;simp only[List.getElem?_toArray,List.getElem?_map,List.getElem?_range m,Option.map_some,Option.some.injEq] at l;cases e:h[i]? with
 |none=>rw[e] at a;simp at a
 |some A=>rw[e] at a;simp at a;rw[<-a,<-l];exact .t _ _ (y i A e)
theorem UO(x:Operand)(m gen i a:Nat)(o:TypeId)(sz:Nat)(e:List (List T))(h:List T)(c:T)(F:b4 P t u z size bytes)(G:j2 u=false)(B:H m=some (.arr o gen sz e))(n:e[i]? =some h)(L:h[a]? =some c):
  b5 P H ⟨d,.load t x,ty,pos,af,g⟩ [.ct m gen sz i a] (.t c):=by
 intro j w X v C Q;obtain⟨q,D⟩:=iK (C m _ B);obtain⟨b,p,R⟩:=m9 Q.1 D;subst p;have aV:=D;rcases(C m _ B).2 with ⟨r,y⟩|⟨I,A,r,y,M,N,W⟩
 ·rw[y] at n;simp at n
 rw[aV] at r;cases r;have f:i<e.length:=(bM.1 n).1;have U:a<sz:=by
  grind
 have l:i*sz+a<A.size:=by
  have:(i+1)*sz<=e.length*sz:=dt _ f
  grind
 have k:w.cell? ⟨b,i*sz+a,none⟩=some A[i*sz+a]:=by simp[World.cell?,y,l]
 refine⟨A[i*sz+a],?_,.t _ _ (W i a h c _ n L (by simp[l]))⟩;simp[execOp,R,Instr.loadAt,Instr.sureAddr,F.CH w G k]
theorem VN(x:Operand)(o c k a:Nat)(p:Array Field)(e:Field)(q:TypeDesc)(r:Value)(h l:Nat)(y:P.underlying t=some (.struct p))(A:p[k]? =some e)(B:e.offset=a)(m:b4 P e.type q r h l)(n:(h==0)=false):
  b5 P H ⟨d,.fieldAddr t x k,ty,pos,af,g⟩ [.ref o c] (.ref o (c+a)):=by
 intro G w X L Q C;obtain⟨b,D,F⟩:=sX C.1;have i:h≠0:=by simpa using n
 refine⟨.pointer (some ⟨b,c+a,none⟩),?_,.ref _ _ _ D⟩;simp[execOp,F,Instr.fieldAt,run_underlying y,A,Instr.sureAddr,fieldPlace,m.run_sizeOf,i,iE,B]
theorem WJ(x:Operand)(r:List T)(k a:Nat)(y:Array Field)(e:Field)(A:TypeDesc)(B:Value)(i n:Nat)(C:P.underlying t=some (.struct y))(D:y[k]? =some e)(F:e.offset=a)(o:b4 P e.type A B i n)(p:(i==0)=false):
  b5 P H ⟨d,.fieldAddr t x k,ty,pos,af,g⟩ [.aK r] (.aK (r.drop a)):=by
 intro I w X M N G;have l:i≠0:=by simpa using p
 obtain⟨b,m,f,L,Q,R,q,W⟩:=G0 G.1;refine⟨.pointer (some ⟨b,m+a,none⟩),?_,.aK _ b (m+a) (λj=>f (a+j)) Q R (λj v=>?_) λj c h=>?_⟩
 ·simp[execOp,L,Instr.fieldAt,run_underlying C,D,Instr.sureAddr,fieldPlace,o.run_sizeOf,l,iE,F]
 ·rw[pf];exact q (a+j) (by simp at v;omega)
 exact W (a+j) c (by simpa using h)
theorem UQ(x:Operand)(l gen o i c k a:Nat)(C:Array Field)(e:Field)(L:TypeDesc)(Q:Value)(h p:Nat)(R:P.underlying t=some (.struct C))(W:C[k]? =some e)(f:e.offset=a)(r:b4 P e.type L Q h p)(y:(h==0)=false)
  (A:TypeId) (m:List (List T)) (D:H l=some (.arr A gen o m)):b5 P H ⟨d,.fieldAddr t x k,ty,pos,af,g⟩ [.ct l gen o i c] (.ct l gen o i (c+a)):=by
 intro I w X M F j;obtain⟨q,G⟩:=iK (F l _ D);obtain⟨b,B,v⟩:=m9 j.1 G;subst B;have aV:=G;have n:h≠0:=by simpa using y
 refine⟨.pointer (some ⟨b,i*o+(c+a),none⟩),?_,.ct _ _ _ _ _ _ (F l _ D).1 aV⟩;simp[execOp,v,Instr.fieldAt,run_underlying R,W,Instr.sureAddr,fieldPlace,r.run_sizeOf,n,iE,f,Nat.add_assoc]
theorem WI(x y:Operand)(e:TypeId)(k:List (List T))(l:List T)(n:Nat)(C:P.underlying t=some (.slice e))(D:b4 P e u z size bytes)(o:k[n]? =some l)(F:l.length=size):
  b5 P H ⟨d,.indexAddr t x y,ty,pos,af,g⟩ [.t (.ay k),.t (.int .i64 (n:Nat))] (.aK l):=by
 intro N w X G U A;have cu:=du A.2.1;have L:n<k.length:=(bM.1 o).1;cases A.1 with
 |t _ _ h=>
  generalize Q:G x=v at h;cases h with
  |fB a p=>simp at o
  |ay _ b m i p f R W B q I r=>
   have M:i=size:=by rw[<-F];exact(q l (bC o)).symm
   subst M;refine⟨.pointer (some ⟨b,m+n*i,none⟩),?_,.aK _ b (m+n*i) (λj=>f n j) R W (λj V=>I n j L O) λj c h=>r n j l c o h⟩;simp[execOp,Q,cu,Instr.indexAt,asIntOf,run_underlying C,D.run_sizeOf,iE];intro h;omega
theorem eT{w:World}{L:Nat}{u:Value}(h:bh G w X (.a7 L gen i m k) u)(c:G L=some (q,gen)):
  (∃a b n ty,u= .slice (some ⟨b,m*i,none⟩) k a/\q=some b/\b<w.heap.size/\w.shape? b=some (ty,n)/\(m+a)*i=n/\k<=a/\a<=maxLen)\/
  (q=none/\m=0/\k=0/\u= .slice none 0 0):=by
 cases h with
 |a7 _ _ _ _ _ a b n ty l e o p r x y=>rw[e] at c;cases c;exact .inl ⟨a,b,n,ty,rfl,rfl,o,p,r,x,y⟩
 |gT _ _ _ l e=>rw[e] at c;cases c;exact .inr ⟨rfl,rfl,rfl,rfl⟩
 |kM _ _ _ _ _ _ A g B e l=>rw[e] at c;cases c;omega
theorem VL(x y:Operand)(e:TypeId)(c gen a h n:Nat)(l:TypeId)(i:List (List T))(r:H c=some (.arr l gen size i))(D:P.underlying t=some (.slice e))(F:b4 P e u z size bytes)(W:n<h):
  b5 P H ⟨d,.indexAddr t x y,ty,pos,af,g⟩ [.a7 c gen size a h,.t (.int .i64 (n:Nat))] (.ct c gen size (a+n) 0):=by
 intro f w X G A o;have cu:=du o.2.1;generalize B:G x=v at o;have k:=o.1;simp only[B] at k;obtain⟨q,C⟩:=iK (A c _ r);rcases eT k C with ⟨L,b,m,Q,rfl,p,j,I,R,M,N⟩|⟨_,_,U,_⟩
 ·subst p;refine⟨.pointer (some ⟨b,(a+n)*size+0,none⟩),?_,.ct _ _ _ _ _ b (A c _ r).1 C⟩;simp[execOp,B,cu,Instr.indexAt,asIntOf,run_underlying D,F.run_sizeOf,iE,Nat.add_mul]
  grind
 omega
end nl
def V.one:V->Bool
 | .t _=>true
 | .ref _ _=>true
 | .aK _=>true
 | .a7 _ _ _ _ _=>true
 | .ct _ _ _ _ _=>true
 | .fn _ _=>true
 | .agg _=>false
 | .bJ _=>false
 | .cX=>false
def nf:List V->Bool
 | []=>true
 |v::a=>v.one&&nf a
theorem y0: ∀{b:List V} {i:Nat} {v:V},nf b=true->b[i]? =some v->v.one=true
 |v::b,0,_,h,a=>by simp at a;subst a;simp[nf] at h;exact h.1
 |v::b,i+1,_,h,a=>by simp at a;simp[nf] at h;exact y0 h.2 a
 | [],_,_,_,a=>by simp at a
def V.cs:V->List V
 | .agg cs=>cs
 |v=>[v]
def V.val:V->Bool
 | .agg _=>true
 |v=>v.one
theorem bh.im{w:World}{u:Value}(h:bh β w X v u)(a:v.one=true):u.oneCell'=true:=by
 cases h with
 |t x v h=>cases h<;>rfl
 |agg=>cases a
 |bJ=>cases a
 |ref=>rfl
 |aK=>rfl
 |a7=>rfl
 |gT=>rfl
 |kM=>assumption
 |ct=>rfl
 |k5=>assumption
 |fn=>rfl
 |cX=>cases a
theorem vc{u:Value}(h:u.oneCell'=true):u.cells= #[u]:=by cases u<;>first|rfl|cases h
theorem bh.cells{w:World}{u:Value}(h:bh β w X v u)(m:v.val=true):
  u.cells.size=v.cs.length/\ ∀(i:Nat) c x,v.cs[i]? =some c->u.cells[i]? =some x->bh β w X c x:=by
 cases v with
 |agg cs=>
  cases h with|agg _ p o h=>exact⟨o,h⟩
 |bJ=>cases m
 |cX=>cases m
 |t x=>
  have:=vc (h.im rfl);rw[this];exact⟨rfl,λi c y k l=>by cases i with|zero=>simp[V.cs] at k l;subst k;subst l;exact h|succ n=>simp[V.cs] at k⟩
 |ref a b=>
  have:=vc (h.im rfl);rw[this];exact⟨rfl,λi c y k l=>by cases i with|zero=>simp[V.cs] at k l;subst k;subst l;exact h|succ n=>simp[V.cs] at k⟩
 |aK a=>
  have:=vc (h.im rfl);rw[this];exact⟨rfl,λi c y k l=>by cases i with|zero=>simp[V.cs] at k l;subst k;subst l;exact h|succ n=>simp[V.cs] at k⟩
 |a7 a b c d e=>
  have:=vc (h.im rfl);rw[this];exact⟨rfl,λi c y k l=>by cases i with|zero=>simp[V.cs] at k l;subst k;subst l;exact h|succ n=>simp[V.cs] at k⟩
 |ct a b c d e=>
  have:=vc (h.im rfl);rw[this];exact⟨rfl,λi c y k l=>by cases i with|zero=>simp[V.cs] at k l;subst k;subst l;exact h|succ n=>simp[V.cs] at k⟩
 |fn a b=>
  have:=vc (h.im rfl);rw[this];exact⟨rfl,λi c y k l=>by cases i with|zero=>simp[V.cs] at k l;subst k;subst l;exact h|succ n=>simp[V.cs] at k⟩
def S.new(s:S)(k:Nat)(e:E):S:={t:=s.t,H:=aQ s.H k (some e),u:=aQ s.u k true}
theorem Rel.Jc{K:Ctx}{s:S}{w:World}(h:Rel K β s a w)(k y:Nat)(R:s.u k=false)(W:Array Value)(f:TypeId)(e:E)
  (U: ∀(p:Map) (N:Nat->Prop) (j:World),j=w.alloc (.cells W f)->p k=some (some w.heap.size,y)->(∀v u,bh β w (own K β s.H) v u->bh p j N v u)->(∀b,¬p.n k b)->cy p j N k e):
  Rel K (β.put k (some (some w.heap.size,y))) (s.new k e) a (w.alloc (.cells W f)):=by
 have l: ∀X,Ext X w (w.alloc (.cells W f)):=λX=>Ext.alloc X w _;have A:β k=none:=h.dB _ R;have q: ∀id x,β id=some x->β.put k (some (some w.heap.size,y)) id=some x:=λid x F=>by
  rw[eo _ _ _ _ (by intro e;subst e;rw[A] at F;cases F)];exact F
 have G:=de.of q;have m: ∀id b,At (β.put k (some (some w.heap.size,y))) id b->(id=k/\b=w.heap.size)\/(id≠k/\At β id b):=λid b aV=>by
  by_cases B:id=k
  ·subst B;rcases aV with ⟨g,aV⟩|aV
   ·rw[iF] at aV;cases aV;exact .inl ⟨rfl,rfl⟩
   exact bt aV (h.dX _ _ R)
  refine .inr ⟨B,?_⟩;rcases aV with ⟨g,aV⟩|aV
  ·rw[eo _ _ _ _ B] at aV;exact .inl ⟨g,aV⟩
  exact .inr aV
 have r: ∀b,b<w.heap.size->own K (β.put k (some (some w.heap.size,y))) (aQ s.H k (some e)) b->own K β s.H b:=by
  rintro b V (F|⟨id,D,L⟩)
  ·exact .inl F
  rcases m id b L with ⟨rfl,rfl⟩|⟨I,C⟩
  ·omega
  rw[bR _ _ _ _ I] at D;exact .inr ⟨id,D,C⟩
 have Q: ∀v u,bh β w (own K β s.H) v u->bh (β.put k (some (some w.heap.size,y))) (w.alloc (.cells W f)) (own K (β.put k (some (some w.heap.size,y))) (aQ s.H k (some e))) v u:=
  λv u Y=>Y.mono (l _) r G (p8 (l _))
 refine {ext:=h.ext.trans ((l λ_=>False).weaken λ_ _ h=>h.elim),nK:=h.nK,nS:=h.nS,ia:=h.ia,qi:=h.qi,base:= ?_,iq:=h.iq.ext h.ext.size (l _),low:= ?_,dB:= ?_,dX:= ?_,inj:= ?_,fresh:= ?_,heap:= ?_,cU:=λi=>Q _ _ (h.cU i),nt:=h.nt,defers:=h.defers}
 ·refine h.base.keep λid hid=>?_
  have:=h.low id hid;rw[eo _ _ _ _ (by intro e;subst e;rw[R] at this;cases this)]
 ·intro id hid;show aQ s.u k true id=true;by_cases e:id=k
  ·subst e;exact bQ _ _ _
  rw[bR _ _ _ _ e];exact h.low id hid
 ·intro id hid;have c:aQ s.u k true id=false:=hid;by_cases e:id=k
  ·subst e;rw[bQ] at c;cases c
  rw[bR _ _ _ _ e] at c;rw[eo _ _ _ _ e];exact h.dB id c
 ·intro id b hid;have c:aQ s.u k true id=false:=hid;by_cases e:id=k
  ·subst e;rw[bQ] at c;cases c
  rw[bR _ _ _ _ e] at c;exact h.dX id b c
 ·intro id M b D L;rcases m id b D with ⟨rfl,rfl⟩|⟨_,C⟩<;>rcases m M _ L with ⟨rfl,e⟩|⟨_,T⟩
  ·rfl
  ·have:=(h.fresh _ _ T).2;omega
  ·subst e;have:=(h.fresh _ _ C).2;omega
  exact h.inj _ _ _ C T
 ·intro id b aV;rcases m id b aV with ⟨rfl,rfl⟩|⟨_,C⟩
  ·exact⟨.inr h.ext.size,a1⟩
  exact⟨(h.fresh _ _ C).1,by have:=(h.fresh _ _ C).2;simp;omega⟩
 intro id e' o;have o:aQ s.H k (some e) id=some e':=o;show aQ s.u k true id=true/\cy _ _ (own K _ (aQ s.H k (some e))) id e';by_cases B:id=k
 ·subst B;rw[bQ] at o;cases o;exact⟨bQ _ _ _,U _ _ _ rfl (iF _ _ _) Q λb=>h.dX _ b R⟩
 rw[bR _ _ _ _ B] at o;obtain⟨D,L⟩:=h.heap id e' o;exact⟨by rw[bR _ _ _ _ B];exact D,L.mono (l _) r G (q id) (p8 (l _)) λb aV=>heap_alloc _ _ _ (h.fresh id b aV).2⟩
theorem Rel.new{K:Ctx}{s:S}{w:World}(h:Rel K β s a w)(k l:Nat)(o:s.u k=false)(m:Array Value)(n:TypeId)(e:E)
  (p: ∀(b:Map) (i:Nat->Prop) (c:World),c=w.alloc (.cells m n)->b k=some (some w.heap.size,l)->(∀v u,bh β w (own K β s.H) v u->bh b c i v u)->cy b c i k e):
  Rel K (β.put k (some (some w.heap.size,l))) (s.new k e) a (w.alloc (.cells m n)):=
 h.Jc k l o m n e λb i c q r x _=>p b i c q r x
theorem Rel.Cj{K:Ctx}{s:S}{w:World}(h:Rel K β s a w)(k:Nat)(n:s.u k=false)(b:Array Value)(e:TypeId)(l:List V)(o:b.size=l.length)
  (p: ∀(i:Nat) c u,l[i]? =some c->b[i]? =some u->bh β w (own K β s.H) c u):
  Rel K (β.put k (some (some w.heap.size,0))) (s.new k (.cells l)) a (w.alloc (.cells b e)):=
 h.new k 0 n b e _ λq B C r x m=>⟨w.heap.size,b,e,x,by subst r;exact iZ _ _,o,λi c u y A=>m _ _ (p i c u y A)⟩
section ops
variable {K:Ctx}{s:S}{d:Option Tmp}{ty:TypeId}{pos:String}{af:Array Edge}{g:Option (Nat×Bool)}
variable {t:TypeId}{u:TypeDesc}{z:Value}{size bytes:Nat}
theorem adz(k:Nat)(c:s.u k=false)(x:Operand)(v:V)(h: ∀i,d=some i->Nat.blt i K.nt=true)(l:s.get x=v)(m:v.val=true):
  dL K ⟨d,.box t x,ty,pos,af,g⟩ s ((s.new k (.cells v.cs)).put d (.ref k 0)):=by
 intro q a w next Q e n
 subst l;obtain⟨o,p⟩:=(e.get x).cells m;unfold Oper.wp;have b:(execOp a.eval ⟨d,.box t x,ty,pos,af,g⟩).run K.P w= .ok (.value (.pointer (some ⟨w.heap.size,0,none⟩))) (w.alloc (.cells (a.eval x).cells t)):=by
  simp[execOp,Instr.box,newVar,newRow]
 rw[b];exact n _ _ _ ((e.Cj k c _ t _ o p).put d h (.ref _ _ _ (bQ _ _ _)))
theorem abS(k:Nat)(c:s.u k=false)(h: ∀i,d=some i->Nat.blt i K.nt=true)(l:b4 K.P t u z size bytes)(m:(gB z).val=true):
  dL K ⟨d,.alloc t,ty,pos,af,g⟩ s ((s.new k (.cells (gB z).cs)).put d (.ref k 0)):=by
 intro e a w next Q n o
 obtain⟨p,q⟩:=(yv e w (own K e s.H) z).cells m;unfold Oper.wp;have b:(execOp a.eval ⟨d,.alloc t,ty,pos,af,g⟩).run K.P w= .ok (.value (.pointer (some ⟨w.heap.size,0,none⟩))) (w.alloc (.cells z.cells t)):=by
  simp[execOp,Instr.alloc,l.su,newVar,newRow]
 rw[b];exact o _ _ _ ((n.Cj k c _ t _ p q).put d h (.ref _ _ _ (bQ _ _ _)))
def mj(b:List V)(a:Nat)(c:List V):List V:=b.take a++c++b.drop (a+c.length)
theorem DC{w:World}{a c:Array Value}{e:TypeId}(l:w.heap[b]? =some (.cells a e (0,0)))(i:c.size=a.size)(k:Nat):(w.setRow b c).shape? k=w.shape? k:=by
 by_cases h:k=b
 ·subst h;unfold World.shape?;rw[setRow_heap _ _ _ _ _ _ l,l];simp[i]
 exact xW (setRow_other _ _ _ _ h)
theorem Rel.setRow{K:Ctx}{s:S}{w:World}(h:Rel K β s a w)(m b:Nat)(L:At β m b)(y:Array Value)(I:TypeId)(Q:w.heap[b]? =some (.cells y I (0,0)))(q:Array Value)(A:q.size=y.size)(e:E)(R:s.H m≠none)
  (N:cy β (w.setRow b q) (own K β s.H) m e):Rel K β {s with H:=aQ s.H m (some e)} a (w.setRow b q):=by
 have r:own K β s.H b:= .inr ⟨m,R,L⟩;have p:Ext (own K β s.H) w (w.setRow b q):=⟨rfl,rfl,rfl,a1,λk _ D=>setRow_other _ _ _ _ λe=>D (e▸r)⟩
 have B:Shaped β w (w.setRow b q):=by
  intro l _;by_cases C:l=b
  ·subst C;unfold World.shape?;rw[setRow_heap _ _ _ _ _ _ Q,Q];simp[A]
  exact xW (setRow_other _ _ _ _ C)
 have o: ∀l,own K β (aQ s.H m (some e)) l->own K β s.H l:=by
  rintro l (D|⟨c,F,G⟩)
  ·exact .inl D
  by_cases x:c=m
  ·subst x;exact .inr ⟨c,R,G⟩
  rw[bR _ _ _ _ x] at F;exact .inr ⟨c,F,G⟩
 have W: ∀v u,bh β w (own K β s.H) v u->bh β (w.setRow b q) (own K β (aQ s.H m (some e))) v u:=λv u T=>T.mono p (λl _=>o l) (de.refl _) B;have Y:K.M b\/K.w0.heap.size<=b:=(h.fresh m b L).1;refine {h with ext:=h.ext.trans' ⟨rfl,rfl,rfl,a1,λk hk D=>setRow_other _ _ _ _ ?_⟩,iq:=λl U=>(DC Q A l).trans (h.iq l U),fresh:= ?_,heap:= ?_,cU:=λi=>W _ _ (h.cU i)}
 ·intro e
  grind
 ·intro c l f;exact⟨(h.fresh c l f).1,by have:=(h.fresh c l f).2;simpa using this⟩
 intro c e' n;have n:aQ s.H m (some e) c=some e':=n;show s.u c=true/\cy β (w.setRow b q) (own K β (aQ s.H m (some e))) c e';by_cases x:c=m
 ·subst x;rw[bQ] at n;cases n;cases j:s.H c with
  |none=>exact bt j R
  |some V=>
   exact⟨(h.heap c V j).1,N.mono (Ext.refl _ _) (λl _=>o l) (de.refl _) (λ_ h=>h) (Shaped.refl _ _) λ_ _=>rfl⟩
 rw[bR _ _ _ _ x] at n;obtain⟨F,G⟩:=h.heap c e' n;exact⟨F,G.mono p (λl _=>o l) (de.refl _) (λ_ h=>h) B λl X=>setRow_other _ _ _ _ λe=>x (h.inj c m l X (e▸L))⟩
theorem Lo(b e:List V)(a:Nat)(h:a+e.length<=b.length)(k l:List Value)(o:k.length=b.length)(p:l.length=e.length){R:V->Value->Prop}
  (q: ∀(i:Nat) c u,b[i]? =some c->k[i]? =some u->R c u) (r: ∀(i:Nat) c u,e[i]? =some c->l[i]? =some u->R c u):
  ∀(i:Nat) c u,(mj b a e)[i]? =some c->(k.take a++l++k.drop (a+l.length))[i]? =some u->R c u:=by
 intro i c u n m;simp only[mj,List.getElem?_append,List.length_append,List.length_take,List.getElem?_take,List.getElem?_drop] at n m
 grind
theorem CJ{P:Program}(h:b4 P t u z size bytes)(w:World)(b o:Nat)(a:Array Value)(c:TypeId)(v:Value)(i:w.heap[b]? =some (.cells a c (0,0)))
  (e:v.cells.size=size) (l:o+size<=a.size) (k: ∀x∈v.cells.toList,x.oneCell'=true):
  (storeVar t ⟨b,o,none⟩ v).run P w= .ok () (w.setRow b (a.toList.take o++v.cells.toList++a.toList.drop (o+v.cells.toList.length)).toArray):=by
 have:=run_storeCells_at P b o c v.cells.toList 0 a w i (by simp[e];omega) k;simp only[storeVar,Sem.run_bind,h.run_sizeOf,Result.andThen_ok,e,ne_eq,not_true,if_false]
 grind
theorem abQ(x y:Operand)(r l:Nat)(A:List V)(v:V)(j:s.get x= .ref r l)(hy:s.get y=v)(I:s.H r=some (.cells A))(eO:b4 K.P t u z size bytes)
  (M:v.val=true) (dY:nf v.cs=true) (hs:Nat.beq v.cs.length size=true) (b9:Nat.ble (l+size) A.length=true):
  dL K ⟨none,.store t x y,ty,pos,af,g⟩ s {s with H:=aQ s.H r (some (.cells (mj A l v.cs)))}:=by
 intro B a w next Q X hk
 subst hy;have C:=X.get x;rw[j] at C;obtain⟨b,f,N⟩:=sX C;obtain⟨fH,m,o,h1,D,h3,h4⟩:=(X.heap r _ I).2;rw[f] at h1;cases h1;obtain⟨T,c2⟩:=(X.get y).cells M;have U:(a.eval y).cells.size=size:=by rw[T];exact cH hs
 have hle:l+size<=A.length:=eB b9;have F: ∀e∈(a.eval y).cells.toList,e.oneCell'=true:=by
  intro e he;obtain⟨i,aD⟩:=iQ.1 he;have G:(a.eval y).cells[i]? =some e:=by simpa using aD
  have L:i<(s.get y).cs.length:=by rw[<-T];exact(iP.1 G).1
  exact(c2 i _ e (bg L) G).im (y0 dY (bg L))
 unfold Oper.wp;have R:=CJ eO w b l m o (a.eval y) D U O F;have p:(execOp a.eval ⟨none,.store t x y,ty,pos,af,g⟩).run K.P w= .ok .skip (w.setRow b (m.toList.take l++(a.eval y).cells.toList++m.toList.drop (l+(a.eval y).cells.toList.length)).toArray):=by
  simp only[execOp,N,Instr.storeAt,Instr.sureAddr,Sem.run_bind,Sem.run_pure,Result.andThen_ok,R]
 rw[p];have n:(m.toList.take l++(a.eval y).cells.toList++m.toList.drop (l+(a.eval y).cells.toList.length)).length=m.size:=by
  grind
 refine hk B _ _ (Rel.setRow X r b (.inl ⟨_,f⟩) m o D _ (by simpa using n) (.cells (mj A l (s.get y).cs)) (by rw[I];simp) ?_);refine⟨b,_,o,f,setRow_heap _ _ _ _ _ _ D,?_,?_⟩
 ·simp only[List.size_toArray,n,h3];simp[mj]
  grind
 intro i c e bB he;have Y:own K B s.H b:= .inr ⟨r,by rw[I];simp,.inl ⟨_,f⟩⟩;have q: ∀v u,bh B w (own K B s.H) v u->bh B (w.setRow b (m.toList.take l++(a.eval y).cells.toList++m.toList.drop (l+(a.eval y).cells.toList.length)).toArray) (own K B s.H) v u:=by
  intro v u M;refine M.mono ⟨rfl,rfl,rfl,a1,λk _ j=>setRow_other _ _ _ _ λe=>j (e▸Y)⟩ (λ_ _ h=>h) (de.refl _) ?_;intro fH _;by_cases W:fH=b
  ·subst W;unfold World.shape?;rw[setRow_heap _ _ _ _ _ _ D,D]
   grind
  exact xW (setRow_other _ _ _ _ W)
 refine q _ _ (Lo A (s.get y).cs l (by have:=cH hs;omega) m.toList (a.eval y).cells.toList (by simpa using h3) (by simpa using T) (λi c u h5 h6=>h4 i c u h5 (by simpa using h6)) (λi c u h5 h6=>c2 i c u h5 (by simpa using h6)) i c e bB ?_)
 grind
end ops
end
section nl
variable {P:Program}{H:Nat->Option E}{d:Option Tmp}{ty:TypeId}{pos:String}{af:Array Edge}{g:Option (Nat×Bool)}
variable {t:TypeId}{u:TypeDesc}{z:Value}{size bytes:Nat}
theorem adO(x y:Operand)(t b:TypeId)(k:IntKind)(m n:Int):b5 P H ⟨d,.binOp .sub t x y b,ty,pos,af,g⟩ [.t (.int k m),.t (.int k n)] (.t (.int k (k.wrap (m-n)))):=by intro c w X e _ a;refine⟨.int k (k.wrap (m-n)),?_,.t _ _ (.int _ _)⟩;simp[execOp,du a.1,du a.2.1,eqGuard,binOp,Op.intArith]
theorem adU(x y:Operand)(t b:TypeId)(k:IntKind)(m n:Int):b5 P H ⟨d,.binOp .mul t x y b,ty,pos,af,g⟩ [.t (.int k m),.t (.int k n)] (.t (.int k (k.wrap (m*n)))):=by intro c w X e _ a;refine⟨.int k (k.wrap (m*n)),?_,.t _ _ (.int _ _)⟩;simp[execOp,du a.1,du a.2.1,eqGuard,binOp,Op.intArith]
theorem adQ(x y:Operand)(t b:TypeId)(k:IntKind)(m n:Int)(h:n≠0):b5 P H ⟨d,.binOp .quo t x y b,ty,pos,af,g⟩ [.t (.int k m),.t (.int k n)] (.t (.int k (k.wrap (m.tdiv n)))):=by intro c w X e _ a;refine⟨.int k (k.wrap (m.tdiv n)),?_,.t _ _ (.int _ _)⟩;simp[execOp,du a.1,du a.2.1,eqGuard,binOp,Op.intDiv,h]
theorem adP(x y:Operand)(t b:TypeId)(k:IntKind)(m n:Int)(h:n≠0):b5 P H ⟨d,.binOp .rem t x y b,ty,pos,af,g⟩ [.t (.int k m),.t (.int k n)] (.t (.int k (m.tmod n))):=by intro c w X e _ a;refine⟨.int k (m.tmod n),?_,.t _ _ (.int _ _)⟩;simp[execOp,du a.1,du a.2.1,eqGuard,binOp,Op.intDiv,h]
theorem adF(x y:Operand)(t b:TypeId)(k:IntKind)(m n:Int):b5 P H ⟨d,.binOp .eql t x y b,ty,pos,af,g⟩ [.t (.int k m),.t (.int k n)] (.t (.bool (decide (m=n)))):=by intro c w X e _ a;refine⟨.bool (decide (m=n)),?_,.t _ _ (.bool _)⟩;simp[execOp,du a.1,du a.2.1,eqGuard,binOp,Op.intCmp];rfl
theorem adS(x y:Operand)(t b:TypeId)(k:IntKind)(m n:Int):b5 P H ⟨d,.binOp .neq t x y b,ty,pos,af,g⟩ [.t (.int k m),.t (.int k n)] (.t (.bool (!decide (m=n)))):=by intro c w X e _ a;refine⟨.bool (!decide (m=n)),?_,.t _ _ (.bool _)⟩;simp[execOp,du a.1,du a.2.1,eqGuard,binOp,Op.intCmp];rfl
theorem adB(x y:Operand)(t b:TypeId)(k:IntKind)(m n:Int):b5 P H ⟨d,.binOp .lss t x y b,ty,pos,af,g⟩ [.t (.int k m),.t (.int k n)] (.t (.bool (decide (m<n)))):=by intro c w X e _ a;refine⟨.bool (decide (m<n)),?_,.t _ _ (.bool _)⟩;simp[execOp,du a.1,du a.2.1,eqGuard,binOp,Op.intCmp]
theorem adC(x y:Operand)(t b:TypeId)(k:IntKind)(m n:Int):b5 P H ⟨d,.binOp .leq t x y b,ty,pos,af,g⟩ [.t (.int k m),.t (.int k n)] (.t (.bool (decide (m<=n)))):=by intro c w X e _ a;refine⟨.bool (decide (m<=n)),?_,.t _ _ (.bool _)⟩;simp[execOp,du a.1,du a.2.1,eqGuard,binOp,Op.intCmp]
theorem adD(x y:Operand)(t b:TypeId)(k:IntKind)(m n:Int):b5 P H ⟨d,.binOp .gtr t x y b,ty,pos,af,g⟩ [.t (.int k m),.t (.int k n)] (.t (.bool (decide (n<m)))):=by intro c w X e _ a;refine⟨.bool (decide (n<m)),?_,.t _ _ (.bool _)⟩;simp[execOp,du a.1,du a.2.1,eqGuard,binOp,Op.intCmp]
theorem adE(x y:Operand)(t b:TypeId)(k:IntKind)(m n:Int):b5 P H ⟨d,.binOp .geq t x y b,ty,pos,af,g⟩ [.t (.int k m),.t (.int k n)] (.t (.bool (decide (n<=m)))):=by intro c w X e _ a;refine⟨.bool (decide (n<=m)),?_,.t _ _ (.bool _)⟩;simp[execOp,du a.1,du a.2.1,eqGuard,binOp,Op.intCmp]
theorem adG(x y:Operand)(t b:TypeId)(m n:List UInt8)(h:(m.length:Int)+n.length<=9223372036854775807):b5 P H ⟨d,.binOp .add t x y b,ty,pos,af,g⟩ [.t (.str m),.t (.str n)] (.t (.str (m++n))):=by
 intro k w X l _ a;refine⟨.string ⟨(m++n).toArray⟩,?_,.t _ _ (.str _)⟩;have c:(ByteArray.mk m.toArray).size=m.length:=by simp[ByteArray.size]
 have e:(ByteArray.mk n.toArray).size=n.length:=by simp[ByteArray.size]
 have i:(ByteArray.mk m.toArray)++(ByteArray.mk n.toArray)=ByteArray.mk (m++n).toArray:=by
  apply ByteArray.ext;simp
 simp[execOp,gO a.1,gO a.2.1,eqGuard,binOp,Op.stringOp,c,e,i];exact h
theorem acp(x y:Operand)(t b:TypeId)(m n:List UInt8):b5 P H ⟨d,.binOp .eql t x y b,ty,pos,af,g⟩ [.t (.str m),.t (.str n)] (.t (.bool (decide (m=n)))):=by
 intro c w X e _ a;refine⟨.bool (decide (m=n)),?_,.t _ _ (.bool _)⟩;simp[execOp,gO a.1,gO a.2.1,eqGuard,binOp,Op.stringOp]
 grind
theorem acx(x y:Operand)(t b:TypeId)(m n:List UInt8):b5 P H ⟨d,.binOp .neq t x y b,ty,pos,af,g⟩ [.t (.str m),.t (.str n)] (.t (.bool (!decide (m=n)))):=by
 intro c w X e _ a;refine⟨.bool (!decide (m=n)),?_,.t _ _ (.bool _)⟩;simp[execOp,gO a.1,gO a.2.1,eqGuard,binOp,Op.stringOp]
 grind
theorem aco(x y:Operand)(t b:TypeId)(m n:List UInt8):b5 P H ⟨d,.binOp .geq t x y b,ty,pos,af,g⟩ [.t (.str m),.t (.str n)] (.t (.bool (!Op.bytesLess m n))):=by intro c w X e _ a;refine⟨.bool (!Op.bytesLess m n),?_,.t _ _ (.bool _)⟩;simp[execOp,gO a.1,gO a.2.1,eqGuard,binOp,Op.stringOp]
theorem ZL(x y:Operand)(l:List UInt8)(n:Nat)(b:UInt8)(e:P.underlying t=some .string)(h:l[n]? =some b):b5 P H ⟨d,.index t x y,ty,pos,af,g⟩ [.t (.str l),.t (.int .i64 (n:Nat))] (.t (.int .u8 b.toNat)):=by
 intro k w X m _ c;refine⟨.int .u8 b.toNat,?_,.t _ _ (.int _ _)⟩;have i:(ByteArray.mk l.toArray)[n]? =some b:=by
  have a:=(bM.1 h).1;have bI:=(bM.1 h).2;rw[getElem?_pos _ _ (by simpa[ByteArray.size] using a)];simpa[ByteArray.getElem_eq_getElem_data] using bI
 simp[execOp,gO c.1,du c.2.1,Instr.index,asIntOf,run_underlying e,i]
theorem adR(x:Operand)(t:TypeId)(b:Bool):b5 P H ⟨d,.unOp .not t x,ty,pos,af,g⟩ [.t (.bool b)] (.t (.bool (!b))):=by intro c w X e _ a;refine⟨.bool (!b),?_,.t _ _ (.bool _)⟩;simp[execOp,mV a.1,Op.unary]
theorem SS(w:World)(n:Nat)(a b:Bool)(c:P.underlying t=some .bool):(Op.equalIn (n+1) t (.bool a) (.bool b)).run P w= .ok (a==b) w:=by simp[Op.equalIn,run_underlying c]
theorem J2(w:World)(a b:Bool)(c:P.underlying t=some .bool):(Op.equal t (.bool a) (.bool b)).run P w= .ok (a==b) w:=SS w 9999 a b c
theorem XC(a b:Bool):binOp .eql t (.bool a) (.bool b)=(do pure (.bool (<-Op.equal t (.bool a) (.bool b)))):=rfl
theorem XB(a b:Bool):binOp .neq t (.bool a) (.bool b)=(do pure (.bool (!(<-Op.equal t (.bool a) (.bool b))))):=rfl
theorem adb(x y:Operand)(b:TypeId)(m n:Bool)(c:P.underlying t=some .bool):b5 P H ⟨d,.binOp .eql t x y b,ty,pos,af,g⟩ [.t (.bool m),.t (.bool n)] (.t (.bool (m==n))):=by intro e w X h _ a;refine⟨.bool (m==n),?_,.t _ _ (.bool _)⟩;simp[execOp,mV a.1,mV a.2.1,eqGuard,XC,J2 w m n c]
theorem ada(x y:Operand)(b:TypeId)(m n:Bool)(c:P.underlying t=some .bool):b5 P H ⟨d,.binOp .neq t x y b,ty,pos,af,g⟩ [.t (.bool m),.t (.bool n)] (.t (.bool (!(m==n)))):=by intro e w X h _ a;refine⟨.bool (!(m==n)),?_,.t _ _ (.bool _)⟩;simp[execOp,mV a.1,mV a.2.1,eqGuard,XB,J2 w m n c]
theorem Oy(x:Operand)(a b:TypeId)(k c:IntKind)(e:TypeDesc)(n:Int)(h:P.underlying a=some e)(i:P.underlying b=some (.int c)):b5 P H ⟨d,.convert a b x,ty,pos,af,g⟩ [.t (.int k n)] (.t (.int c (c.wrap n))):=by intro m w X o _ l;refine⟨.int c (c.wrap n),?_,.t _ _ (.int _ _)⟩;simp only[execOp,du l.1,convert,Sem.run_bind,run_underlying h,run_underlying i,Result.andThen_ok];cases e<;>simp[Conv.intToInt]
theorem X8(x:Operand)(l:List UInt8)(a:P.underlying t=some .string):b5 P H ⟨d,.call {callee:= .builtin .len,args:= #[x],argTypes:= #[t]},ty,pos,af,g⟩ [.t (.str l)] (.t (.int .i64 (l.length:Nat))):=by
 intro i w X b _ c;refine⟨.int .i64 (l.length:Nat),?_,.t _ _ (.int _ _)⟩;have e:b x= .string ⟨l.toArray⟩:=gO c.1;have h:(ByteArray.mk l.toArray).size=l.length:=by simp[ByteArray.size]
 simp[execOp,resolve,invoke,builtin,e,Builtin.len_,run_underlying a,goInt,h]
theorem ac1{G:Map}{w:World}{X:Nat->Prop}{c:List (List T)}{u:Value}(h:bh G w X (.t (.ay c)) u): ∃a cap,u= .slice a c.length cap:=by
 cases h with
 |t _ _ h=>cases h with
  |fB a cap=>exact⟨a,cap,rfl⟩
  |ay _ b e size cap=>exact⟨_,cap,rfl⟩
theorem Zc(x:Operand)(e:TypeId)(b:List (List T))(h:P.underlying t=some (.slice e)):b5 P H ⟨d,.call {callee:= .builtin .len,args:= #[x],argTypes:= #[t]},ty,pos,af,g⟩ [.t (.ay b)] (.t (.int .i64 (b.length:Nat))):=by intro m w X i _ k;obtain⟨a,l,c⟩:=ac1 k.1;refine⟨.int .i64 (b.length:Nat),?_,.t _ _ (.int _ _)⟩;have c:i x=_:=c;simp[execOp,resolve,invoke,builtin,c,Builtin.len_,run_underlying h,goInt]
theorem X9(x:Operand)(e:TypeId)(n gen c i h:Nat)(r:P.underlying t=some (.slice e))(o:TypeId)(k:List (List T))(s:H n=some (.arr o gen c k)):b5 P H ⟨d,.call {callee:= .builtin .len,args:= #[x],argTypes:= #[t]},ty,pos,af,g⟩ [.a7 n gen c i h] (.t (.int .i64 (h:Nat))):=by
 intro y w X p A B;obtain⟨a,cap,l⟩: ∃a cap,p x= .slice a h cap:=by
  have C:bh y w X (.a7 n gen c i h) (p x):=B.1;obtain⟨q,D⟩:=iK (A n _ s);rcases eT C D with ⟨cap,b,m,F,l,_⟩|⟨_,_,G,l⟩
  ·exact⟨_,_,l⟩
  exact⟨none,0,by rw[G];exact l⟩
 refine⟨.int .i64 (h:Nat),?_,.t _ _ (.int _ _)⟩;simp[execOp,resolve,invoke,builtin,l,Builtin.len_,run_underlying r,goInt]
theorem X'(x:Operand)(a:List V)(k:Nat)(v:V)(h:a[k]? =some v):b5 P H ⟨d,.extract x k,ty,pos,af,g⟩ [.bJ a] v:=by
 intro l w X c _ m;have e:bh l w X (.bJ a) (c x):=m.1;generalize n:c x=y at e;cases e with
 |bJ _ b o p=>
  have i:k<b.size:=by rw[o];exact(bM.1 h).1
  refine⟨b[k],?_,p k v b[k] h (by simp[i])⟩;simp[execOp,n,Instr.extract,i]
theorem K3(x:Operand)(v:V)(a:(match v with| .ref _ _=>true| .aK _=>true|_=>false)=true):b5 P H ⟨d,.nilCheck x,ty,pos,af,g⟩ [v] v:=by
 intro h w X b _ i;have c:bh h w X v (b x):=i.1;refine⟨b x,?_,c⟩;generalize e:b x=y at c;cases c with
 |ref=>simp[execOp,e]
 |aK=>simp[execOp,e]
 |ct=>cases a
 |k5=>cases a
 |kM=>cases a
 |t=>cases a
 |agg=>cases a
 |bJ=>cases a
 |a7=>cases a
 |gT=>cases a
 |fn=>cases a
 |cX=>cases a
theorem dh.e6: ∀{β:Map} {w:World} {X:Nat->Prop} {a:List V} {b:List Value},dh β w X a b->b.length=a.length/\ ∀(i:Nat) c u,a[i]? =some c->b[i]? =some u->bh β w X c u
 |_,_,_,[],[],_=>⟨rfl,λi c u h _=>by simp at h⟩
 |_,_,_,v::a,x::b,h=>by
  obtain⟨l,m⟩:=dh.e6 h.2;refine⟨by simp[l],λi c u e k=>?_⟩;cases i with
  |zero=>simp at e k;subst e;subst k;exact h.1
  |succ i=>simp at e k;exact m i c u e k
 |_,_,_,[],_::_,h=>h.elim
 |_,_,_,_::_,[],h=>h.elim
theorem WD(f:FuncId)(a:Array Operand)(b:List V):b5 P H ⟨d,.makeFunc (.func f) #[] a,ty,pos,af,g⟩ b (.fn f b):=by
 intro k w X h _ l;have e:dh k w X b (a.toList.map h):=by simpa[Op.operands] using l
 obtain⟨m,n⟩:=e.e6;exact⟨.func (.func f) #[] (a.map h),by simp[execOp,Instr.makeFunc],.fn f b _ (by simpa using m) λi c u o p=>n i c u o (by simpa using p)⟩
theorem adA(x y:Operand)(a:Array TypeId)(k:IntKind)(m n:Int):b5 P H ⟨d,.call {callee:= .builtin .max,args:= #[x,y],argTypes:=a},ty,pos,af,g⟩ [.t (.int k m),.t (.int k n)] (.t (.int k (max m n))):=by
 intro o w X b _ c;refine⟨.int k (max m n),?_,.t _ _ (.int _ _)⟩;have e:b x= .int k m:=du c.1;have h:b y= .int k n:=du c.2.1;have i:(if n>m then n else m)=max m n:=by split<;>omega
 have l: ∀w,(Builtin.max_ a ty #[.int k m,.int k n]).run P w= .ok (.int k (max m n)) w:=by
  intro w;simp only[Builtin.max_,List.foldlM,Builtin.max2,i];rfl
 simp[execOp,resolve,invoke,builtin,e,h,l]
theorem adV(x y:Operand)(a:Array TypeId)(k:IntKind)(m n:Int):b5 P H ⟨d,.call {callee:= .builtin .min,args:= #[x,y],argTypes:=a},ty,pos,af,g⟩ [.t (.int k m),.t (.int k n)] (.t (.int k (min m n))):=by
 intro l w X b _ c;refine⟨.int k (min m n),?_,.t _ _ (.int _ _)⟩;have e:b x= .int k m:=du c.1;have h:b y= .int k n:=du c.2.1;have i: ∀w,(Builtin.min_ a ty #[.int k m,.int k n]).run P w= .ok (.int k (min m n)) w:=by
  intro w;simp only[Builtin.min_,List.foldlM,Builtin.min2]
  first|rfl|(rw[show min m n=(if n<m then n else m) from by split<;>omega];rfl)
 simp[execOp,resolve,invoke,builtin,e,h,i]
end nl
section nl
variable {P:Program}{H:Nat->Option E}{d:Option Tmp}{ty:TypeId}{pos:String}{af:Array Edge}{g:Option (Nat×Bool)}
variable {t:TypeId}{u:TypeDesc}{z:Value}{size bytes:Nat}
theorem d5(w:World)(n:Nat)(y:Nat)(c:Go.BoundsCode)(h:n<=y):(Instr.sliceBound (.int .i64 (n:Nat)) y c).run P w= .ok n w:=by
 simp[Instr.sliceBound,asIntOf]
 grind
theorem EL(l:List UInt8)(a b:Nat):(ByteArray.mk l.toArray).extract a b=ByteArray.mk ((l.take b).drop a).toArray:=by
 apply ByteArray.ext;rw[ByteArray.data_extract]
 grind
theorem VH(x:Operand)(h i:Operand)(l:List UInt8)(a b:Nat)(k:P.underlying t=some .string)(m:a<=b)(n:b<=l.length):
  b5 P H ⟨d,.slice t x (some h) (some i) none,ty,pos,af,g⟩ [.t (.str l),.t (.int .i64 (a:Nat)),.t (.int .i64 (b:Nat))] (.t (.str ((l.take b).drop a))):=by
 intro s w X c _ e;refine⟨.string ⟨((l.take b).drop a).toArray⟩,?_,.t _ _ (.str _)⟩;have o:c x=_:=gO e.1;have p:c h=_:=du e.2.1;have q:c i=_:=du e.2.2.1;have r:(ByteArray.mk l.toArray).size=l.length:=by simp[ByteArray.size]
 simp[execOp,o,p,q,Instr.sliceAt,Instr.slice,run_underlying k,Instr.sliceBounds,r,d5 w b l.length _ n,d5 w a b _ m,EL]
theorem SU(x:Operand)(b:Operand)(l:List UInt8)(a:Nat)(h:P.underlying t=some .string)(i:a<=l.length):
  b5 P H ⟨d,.slice t x (some b) none none,ty,pos,af,g⟩ [.t (.str l),.t (.int .i64 (a:Nat))] (.t (.str (l.drop a))):=by
 intro o w X c _ e;refine⟨.string ⟨(l.drop a).toArray⟩,?_,.t _ _ (.str _)⟩;have k:c x=_:=gO e.1;have m:c b=_:=du e.2.1;have n:(ByteArray.mk l.toArray).size=l.length:=by simp[ByteArray.size]
 simp[execOp,k,m,Instr.sliceAt,Instr.slice,run_underlying h,Instr.sliceBounds,n,d5 w a l.length _ i,EL]
theorem S'(x:Operand)(a:Operand)(l:List UInt8)(b:Nat)(h:P.underlying t=some .string)(i:b<=l.length):
  b5 P H ⟨d,.slice t x none (some a) none,ty,pos,af,g⟩ [.t (.str l),.t (.int .i64 (b:Nat))] (.t (.str (l.take b))):=by
 intro o w X c _ e;refine⟨.string ⟨(l.take b).toArray⟩,?_,.t _ _ (.str _)⟩;have k:c x=_:=gO e.1;have m:c a=_:=du e.2.1;have n:(ByteArray.mk l.toArray).size=l.length:=by simp[ByteArray.size]
 simp[execOp,k,m,Instr.sliceAt,Instr.slice,run_underlying h,Instr.sliceBounds,n,d5 w b l.length _ i,EL]
theorem cL.part{w:World}{X:Nat->Prop}{c:List (List T)}{v:Value}(h:cL w X (.ay c) v)(a b size:Nat)(V:a<=b)(B:b<=c.length)(o: ∀m,m∈c->m.length=size):
  ∃p k,v= .slice p c.length k/\c.length<=k/\cL w X (.ay ((c.take b).drop a)) (.slice (if k=a then p else p.map (·.add (a*size))) (b-a) (k-a)):=by
 cases h with
 |fB p k=>
  have Q:a=0:=by simp at B;omega
  have C:b=0:=by simp at B;omega
  subst Q;subst C;exact⟨p,k,rfl,a1,by simpa using cL.fB _ _⟩
 |ay _ R D l k f C W q r I M=>
  refine⟨_,k,rfl,q,?_⟩;have n:((c.take b).drop a).length=b-a:=bX
  by_cases F:a=b
  ·subst F;rw[show(c.take a).drop a=[] by simp];rw[kp];exact .fB _ _
  have G:c≠[]:=by intro e;subst e;simp at B;omega
  obtain⟨L,s⟩:=Dj c G;have K:l=size:=by rw[<-r L s,o L s]
  subst K;rw[aT O];simp only[Option.map_some,iE];rw[<-n];refine .ay _ R (D+a*l) l (k-a) (λi j=>f (a+i) j) C W (by rw[n];omega) (λm y=>o m (fU (eV y))) (λi j N S=>?_) λi j m x A U=>?_
  ·have:=I (a+i) j (by rw[n] at N;omega) S;rw[dC,<-pf] at this;exact this
  refine M (a+i) j m x ?_ U;rw[fS,fL] at A;split at A
  ·exact A
  cases A
theorem Tf(x:Operand)(k:Operand)(e:TypeId)(b:List (List T))(a:Nat)(q:P.underlying t=some (.slice e))(r:b4 P e u z size bytes)(l:a<=b.length)(i: ∀c,c∈b->c.length=size):
  b5 P H ⟨d,.slice t x (some k) none none,ty,pos,af,g⟩ [.t (.ay b),.t (.int .i64 (a:Nat))] (.t (.ay (b.drop a))):=by
 intro s w X m _ n;have y:m k=_:=du n.2.1;have A:bh s w X (.t (.ay b)) (m x):=n.1;cases A with
 |t _ _ h=>
  obtain⟨D,B,C,o,p⟩:=h.part a b.length size l (cD _) i;rw[cT] at p;refine⟨_,?_,.t _ _ p⟩;simp[execOp,C,y,Instr.sliceAt,Instr.slice,run_underlying q,Instr.sliceBounds,d5 w a b.length _ l,r.run_sizeOf]
theorem Us(x:Operand)(l:Operand)(e:TypeId)(a:List (List T))(b:Nat)(q:P.underlying t=some (.slice e))(r:b4 P e u z size bytes)(s:b<=a.length)(i: ∀c,c∈a->c.length=size):
  b5 P H ⟨d,.slice t x none (some l) none,ty,pos,af,g⟩ [.t (.ay a),.t (.int .i64 (b:Nat))] (.t (.ay (a.take b))):=by
 intro y w X m _ n;have A:m l=_:=du n.2.1;have B:bh y w X (.t (.ay a)) (m x):=n.1;cases B with
 |t _ _ h=>
  obtain⟨D,k,C,o,p⟩:=h.part 0 b size (Nat.zero_le _) s i;simp only[List.drop_zero] at p;refine⟨_,?_,.t _ _ p⟩;simp[execOp,C,A,Instr.sliceAt,Instr.slice,run_underlying q,Instr.sliceBounds,d5 w b k _ O,r.run_sizeOf]
theorem WB(x:Operand)(o p:Operand)(e:TypeId)(c:List (List T))(a b:Nat)(s:P.underlying t=some (.slice e))(y:b4 P e u z size bytes)(q:a<=b)(A:b<=c.length)(k: ∀i,i∈c->i.length=size):
  b5 P H ⟨d,.slice t x (some o) (some p) none,ty,pos,af,g⟩ [.t (.ay c),.t (.int .i64 (a:Nat)),.t (.int .i64 (b:Nat))] (.t (.ay ((c.take b).drop a))):=by
 intro B w X l _ m;have C:l o=_:=du m.2.1;have D:l p=_:=du m.2.2.1;have F:bh B w X (.t (.ay c)) (l x):=m.1;cases F with
 |t _ _ h=>
  obtain⟨L,n,G,r,K⟩:=h.part a b size q A k;refine⟨_,?_,.t _ _ K⟩;simp[execOp,G,C,D,Instr.sliceAt,Instr.slice,run_underlying s,Instr.sliceBounds,d5 w b n _ O,d5 w a b _ q,y.run_sizeOf]
end nl
theorem cL.ahE{w:World}{X:Nat->Prop}{a:List (List T)}{e:Option Addr}{n i:Nat}(h:cL w X (.ay a) (.slice e n i))(c:Nat)(p:n<=c):cL w X (.ay a) (.slice e n c):=by
 cases h with
 |fB=>exact .fB _ c
 |ay _ b k size _ f q r o l m s=>exact .ay a b k size c f q r p l m s
theorem UL{P:Program}{H:Nat->Option E}{d:Option Tmp}{ty t:TypeId}{pos:String}{af:Array Edge}{g:Option (Nat×Bool)}{u:TypeDesc}{z:Value}{n i:Nat}(x r s:Operand)(e:TypeId)(a:List (List T))(b:Nat)(C:P.underlying t=some (.slice e))(D:b4 P e u z n i)(F:b<=a.length)(l: ∀c,c∈a->c.length=n):
  b5 P H ⟨d,.slice t x none (some r) (some s),ty,pos,af,g⟩ [.t (.ay a),.t (.int .i64 (b:Nat)),.t (.int .i64 (b:Nat))] (.t (.ay (a.take b))):=by
 intro G w X m _ o;have K:m r=_:=du o.2.1;have L:m s=_:=du o.2.2.1;have Q:bh G w X (.t (.ay a)) (m x):=o.1;cases Q with
 |t _ _ h=>
  obtain⟨y,k,R,A,p⟩:=h.part 0 b n (Nat.zero_le _) F l;simp only[List.drop_zero,Nat.zero_mul,Nat.sub_zero] at p;have q:cL w X (.ay (a.take b)) (.slice (if b=0 then y else y.map (·.add 0)) b b):=by
   by_cases B:b=0
   ·subst B;exact .fB _ _
   rw[aT (show¬k=0 by omega)] at p;rw[aT B];exact p.ahE b (cD _)
  refine⟨_,?_,.t _ _ q⟩;simp[execOp,R,K,L,Instr.sliceAt,Instr.slice,run_underlying C,Instr.sliceBounds,d5 w b k _ O,d5 w b b _ (Nat.le_refl _),D.run_sizeOf]
section
def pG(e:Map)(w:World)(X:Nat->Prop)(a:List V)(b:List Value):Prop:=b.length=a.length/\ ∀(i:Nat) c u,a[i]? =some c->b[i]? =some u->bh e w X c u
variable {w:World}{X:Nat->Prop}{o:Oper}{vals:List V}{v:V}{n:Nat}
theorem pG.mj{G:Map}{Y a:List V}{b c:List Value}(h:pG G w X Y b)(k:pG G w X a c)(e:Nat)(i:e+a.length<=Y.length):
  pG G w X (mj Y e a) (b.take e++c++b.drop (e+c.length)):=by refine⟨?_,Lo Y a e i b c h.1 k.1 h.2 k.2⟩;have l:=h.1;have ez:=k.1;simp[Lift.mj];omega
theorem Nj: ∀(b:List Value) (k a:Nat) (cells:Array Value),a+k+b.length<=cells.size->
  (b.zipIdx k).foldl (λcs (p:Value×Nat)=>cs.setIfInBounds (a+p.2) p.1) cells=(cells.toList.take (a+k)++b++cells.toList.drop (a+k+b.length)).toArray
 | [],k,a,cells,_=>a1
 |v::b,k,a,cells,h=>by simp only[List.zipIdx_cons,List.foldl_cons];simp only[List.length_cons] at h;rw[Nj b (k+1) a _ bX];have e:=list_seg_step cells.toList (a+k) v b bX;simp only[Array.toList_setIfInBounds,List.length_cons];congr 1
def kl(a:Nat->Option (Nat×Nat))(e:List V):List (Nat×V)->Option (List V)
 | []=>some e
 |(i,v)::b=>match a i with
  |none=>none
  |some (c,size)=>bif v.val&&Nat.beq v.cs.length size&&Nat.ble (c+size) e.length then kl a (mj e c v.cs) b else none
theorem vM{β:Map}{w:World}{X:Nat->Prop}(a:Nat->Option (Nat×Nat)): ∀(is:List Nat) (e:List V) (B:List Value) (cs:List V) (k:Array Value) (m:List V),pG β w X cs k.toList->dh β w X e B->is.length=e.length->
  kl a cs (is.zip e)=some m-> ∃n,Instr.fill a k (is.zip B)=some n/\pG β w X m n.toList
 | [],[],[],cs,k,m,h,_,_,l=>by simp[kl] at l;subst l;exact⟨k,rfl,h⟩
 |i::is,v::e,x::B,cs,k,m,h,y,A,l=>by
  simp only[List.zip_cons_cons,kl] at l;cases D:a i with
  |none=>rw[D] at l;cases l
  |some q=>
   obtain⟨b,size⟩:=q;rw[D] at l;simp only[] at l;cases C:(v.val&&Nat.beq v.cs.length size&&Nat.ble (b+size) cs.length) with
   |false=>rw[C] at l;cases l
   |true=>
    rw[C,cond_true] at l;simp only[Bool.and_eq_true] at C;obtain⟨⟨W,cd⟩,R⟩:=C;have cd:=cH cd;have R:=eB R;obtain⟨F,f⟩:=y.1.cells W;have j:k.size=cs.length:=by simpa using h.1
    have G:pG β w X v.cs x.cells.toList:=⟨by simpa using F,λi c u L Q=>f i c u L (by simpa using Q)⟩
    have o:=h.mj G b O;have r:x.cells.zipIdx.foldl (λcs (p:Value×Nat)=>cs.setIfInBounds (b+p.2) p.1) k=(k.toList.take b++x.cells.toList++k.toList.drop (b+x.cells.toList.length)).toArray:=by
     rw[<-Array.foldl_toList,Array.toList_zipIdx]
     have:=Nj x.cells.toList 0 b k (by simp[F];omega);simpa using this
    obtain⟨n,L,Q⟩:=vM a is e B (mj cs b v.cs) (k.toList.take b++x.cells.toList++k.toList.drop (b+x.cells.toList.length)).toArray m (by simpa using o) y.2 (by simpa using A) l;refine⟨n,?_,Q⟩;simp only[List.zip_cons_cons,Instr.fill,D];rw[aT (by simp[F];omega),r];exact L
 | [],_::_,_,_,_,_,_,_,A,_=>by simp at A
 |_::_,[],_,_,_,_,_,_,A,_=>by simp at A
 | [],[],_::_,_,_,_,_,y,_,_=>y.elim
 |_::_,_::_,[],_,_,_,_,y,_,_=>y.elim
theorem ve(b:Operand->Value): ∀a:List (Nat×Operand),a.map (λp=>(p.1,b p.2))=(a.map (·.1)).zip ((a.map (·.2)).map b)
 | []=>rfl
 |p::a=>by simp only[List.map_cons,List.zip_cons_cons,ve b a]
def AX(P:Program)(H:Nat->Option E)(o:Oper)(a:List V)(v:V):Prop:=
 ∀(c:Map) (w:World) (X:Nat->Prop) (i:Operand->Value),(∀id e,H id=some e->cy c w X id e)->(∀b,X b->b<w.heap.size)->
  dh c w X a (o.op.operands.toList.map i)-> ∃u h,(execOp i o).run P w= .ok (.value u) h/\Ext (λ_=>False) w h/\bh c h X v u
theorem b5.g{P:Program}{H:Nat->Option E}(h:b5 P H o vals v):AX P H o vals v:=
 λa w X b c _ e=>let ⟨u,i,k⟩:=h a w X b c e;⟨u,w,i,Ext.refl _ _,k⟩
theorem Rel.Jf{K:Ctx}{β:Map}{s:S}{a:Act}(c:Rel K β s a w): ∀b,own K β s.H b->b<w.heap.size:=by
 rintro b (e|⟨id,_,h⟩)
 ·exact lF (c.ia b e).1 c.ext.size
 exact(c.fresh id b h).2
theorem JK{K:Ctx}{s:S}(m: ∀i,o.dst=some i->Nat.blt i K.nt=true)(n:e8 (o.op.operands.toList.map s.get) vals)(h:AX K.P s.H o vals v):
  dL K o s (s.put o.dst v):=by
 intro k a w next Q c p
 obtain⟨u,q,b,l,r⟩:=h k w (own K k s.H) a.eval (λid e l=>(c.heap id e l).2) c.Jf ((c.nJ _).le n);unfold Oper.wp;rw[b];exact p k _ q ((c.grow l).put o.dst m r)
section ops
variable {P:Program}{H:Nat->Option E}{d:Option Tmp}{ty:TypeId}{pos:String}{af:Array Edge}{g:Option (Nat×Bool)}
variable {t:TypeId}{u:TypeDesc}{z:Value}{size bytes:Nat}
theorem Ak(b:Map)(w:World)(X:Nat->Prop)(us:List Value)(n:Nat)(h:us.length=n):pG b w X (List.replicate n .cX) us:=
 ⟨by simp[h],λi c u a _=>by
  rw[sL] at a;split at a
  ·cases a;exact .cX _
  cases a⟩
theorem aa5(h:Array (Nat×Operand))(C:Array Field)(a:Array (Nat×Nat))(b k:List V)(D:b4 P t (.struct C) z size bytes)
  (F: ∀w,(C.mapM (m:=Sem) λf:Field=>do pure (f.offset,<-sizeOf f.type)).run P w= .ok a w) (G:(gB z).val=true) (l:Nat.beq h.toList.length b.length=true)
  (L:kl (a[·]?) (gB z).cs ((h.toList.map (·.1)).zip b)=some k):b5 P H ⟨d,.build t h,ty,pos,af,g⟩ b (.agg k):=by
 intro p w X n _ Q;have q:dh p w X b ((h.toList.map (·.2)).map n):=by simpa[Op.operands] using Q
 obtain⟨R,W⟩:=(yv p w X z).cells G;obtain⟨r,y,o⟩:=vM (β:=p) (w:=w) (X:=X) (a[·]?) (h.toList.map (·.1)) b _ (gB z).cs z.cells k ⟨by simpa using R,λi c u y o=>W i c u y (by simpa using o)⟩ q (by simpa using cH l) L;refine⟨.agg r,?_,.agg _ _ (by simpa using o.1) λi c u j v=>o.2 i c u j (by simpa using v)⟩;have A:=ve n h.toList;have B:=F w;simp only[execOp,Instr.build,Sem.run_bind,D.su,Result.andThen_ok,run_underlying D.1];rw[B];simp only[Result.andThen_ok,Array.toList_map];have e:(h.toList.map λx=>match x with|(i,x)=>(i,n x))=(h.toList.map (·.1)).zip ((h.toList.map (·.2)).map n):=by rw[<-A]
 rw[e,y];rfl
theorem MZ(x:Operand)(k:Nat)(B:Array Field)(e:Field)(l:List V)(v:V){a:TypeDesc}{b:Value}{m:Nat}(C:b4 P t (.struct B) z size bytes)(D:B[k]? =some e)(h:b4 P e.type a b n m)
  (p:(j2 a=true/\Nat.ble (e.offset+n) l.length=true/\v= .agg ((l.drop e.offset).take n))\/(j2 a=false/\l[e.offset]? =some v)):b5 P H ⟨d,.field t x k,ty,pos,af,g⟩ [.agg l] v:=by
 intro W w X F _ o;have G:bh W w X (.agg l) (F x):=o.1;generalize L:F x=y at G;cases G with
 |agg _ q f Q=>
  rcases p with ⟨o,j,rfl⟩|⟨o,p⟩
  ·have I:=eB j;refine⟨.agg (q.extract e.offset (e.offset+n)),?_,.agg _ _ bX λi c u A r=>?_⟩
   ·simp[execOp,L,Instr.field,run_underlying C.1,D,asAgg,part,h.CG,h.run_sizeOf,o]
   have M:i<n:=by
    have:=(bM.1 A).1;simp at this;omega
   rw[List.getElem?_take_of_lt M,fS] at A;refine Q (e.offset+i) c u A ?_;rw[Array.getElem?_extract] at r;split at r
   ·exact r
   cases r
  have R:e.offset<q.size:=by rw[f];exact(bM.1 p).1
  refine⟨q[e.offset],?_,Q _ v q[e.offset] p (by simp[R])⟩;simp[execOp,L,Instr.field,run_underlying C.1,D,asAgg,part,h.CG,o,R]
theorem J9(n:Nat)(m:Array (Nat×Operand))(e:TypeId)(k:List V)(a:List (List T))(hu:P.underlying t=some (.slice e))(N:b4 P e u z size bytes)(A:Nat.beq m.toList.length k.length=true)
  (cu:Nat.beq a.length n=true) (o: ∀c,c∈a->c.length=size) (B:Nat.ble (n*size) 16777216=true)
  (hM:kl (λi=>some (i*size,size)) (List.replicate (n*size) .cX) ((m.toList.map (·.1)).zip k)=some (a.flatten.map .t)):
  AX P H ⟨d,.buildSlice t n m,ty,pos,af,g⟩ k (.t (.ay a)):=by
 intro U w X C _ gb fP;have R:=cH cu;have W:dh U w X k ((m.toList.map (·.2)).map C):=by simpa[Op.operands] using fP
 have f:=ve C m.toList;obtain⟨l,p,y⟩:=vM (β:=U) (w:=w) (X:=X) (λi=>some (i*size,size)) (m.toList.map (·.1)) k _ (List.replicate (n*size) .cX)
  ((Array.range (n*size)).map ((if n*size=0 then #[] else z.cells)[· %(if n*size=0 then #[] else z.cells).size]!)) _ (Ak _ _ _ _ _ a1) W (by simpa using cH A) hM
 have D:(execOp C ⟨d,.buildSlice t n m,ty,pos,af,g⟩).run P w= .ok (.value (.slice (some ⟨w.heap.size,0,none⟩) n n)) (w.alloc (.cells l e)):=by
  have Y:(m.toList.map λx=>match x with|(i,x)=>(i,C x))=(m.toList.map (·.1)).zip ((m.toList.map (·.2)).map C):=by rw[<-f]
  have v: ¬(n*size>2^24):=by have:=eB B;omega
  simp only[execOp,Instr.buildSlice,Sem.run_bind,run_underlying hu,Result.andThen_ok,N.run_sizeOf,v,if_false,Array.toList_map];by_cases L:n*size=0
  ·simp only[L,if_true] at p;simp only[L,if_true,Sem.run_pure,Sem.run_bind,Result.andThen_ok];rw[Y,p];rfl
  simp only[L,if_false] at p;simp only[L,if_false,Sem.run_pure,Sem.run_bind,N.su,Result.andThen_ok];rw[Y,p];rfl
 refine⟨_,_,D,Ext.alloc _ _ _,.t _ _ ?_⟩;subst R;have q:l.size=a.flatten.length:=by
  have h:=y.1
  grind
 have I:a.flatten.length=a.length*size:=by
  rw[List.length_flatten]
  have:a.map List.length=List.replicate a.length size:=List.eq_replicate_iff.2 ⟨a1,λb v=>by obtain⟨r,bO,rfl⟩:=et.1 v;exact o r bO⟩;rw[this];simp
 have F: ∀(a:List (List T)),(∀c,c∈a->c.length=size)-> ∀(i j:Nat) (c:List T) (x:T),a[i]? =some c->c[j]? =some x->a.flatten[i*size+j]? =some x:=by
  intro a;induction a with
  |nil=>intro _ i j c x h _;simp at h
  |cons r a l2=>
   intro hs i j c x p y;have bO:=hs r a1;rw[List.flatten_cons];cases i with
   |zero=>
    simp at p;subst p
    have:=(bM.1 y).1;rw[fT,dn,iu this];exact y
   |succ i=>
    simp at p;rw[hi (by rw[bO,dC];omega)];rw[show(i+1)*size+j-r.length=i*size+j by rw[bO,dC];omega];exact l2 (λc h=>hs c (by simp[h])) i j c x p y
 have G: ∀i j,i<a.length->j<size->i*size+j<l.size:=by
  intro i j aD Q;rw[q,I]
  have:(i+1)*size<=a.length*size:=dt _ aD
  grind
 refine .ay a w.heap.size 0 size a.length (λi j=>l.getD (i*size+j) undef) a1 (λh=>by have:=gb _ h;omega) (cD _) o (λi j aD Q=>?_) λi j c x M h4=>?_
 ·rw[dn,World.cell?_alloc_new]
  have:=G i j aD Q;simp[this]
 have h5:=F a o i j c x M h4;have aD:=(bM.1 M).1;have Q:j<size:=by rw[<-o c (bC M)];exact(bM.1 h4).1
 have h6:=G i j aD Q;have lg:=y.2 (i*size+j) (.t x) l[i*size+j] (by rw[er,h5];rfl) (by simp[h6]);cases lg with
 |t _ _ h=>
  have:l.getD (i*size+j) undef=l[i*size+j]:=by simp[h6]
  rw[this];exact h.mono (Ext.alloc X _ _) λ_ _ h=>h
end ops
theorem l8{i j size:Nat}(a:i<n)(b:j<size):i*size+j<n*size:=by
 have:(i+1)*size<=n*size:=dt _ a
 grind
section ops
variable {K:Ctx}{s:S}{d:Option Tmp}{ty:TypeId}{pos:String}{af:Array Edge}{g:Option (Nat×Bool)}
variable {t:TypeId}{u:TypeDesc}{z:Value}{size bytes:Nat}
theorem OC(k:Nat)(hk:s.u k=false)(l c:Operand)(e:TypeId)(m:Nat)(b:List T)(cn: ∀i,d=some i->Nat.blt i K.nt=true)(hu:K.P.underlying t=some (.slice e))(he:b4 K.P e u z size bytes)
  (b9:s.get l= .t (.int .i64 (m:Nat))) (bB:s.get c= .t (.int .i64 (m:Nat))) (eG:(gB z).cs=b.map .t) (D:(gB z).val=true) (hs:Nat.beq b.length size=true) (o:Nat.blt 0 size=true) (hm:m*bytes<=281474976710656) (BI:m<=9223372036854775807):
  dL K ⟨d,.makeSlice t l c,ty,pos,af,g⟩ s ((s.new k (.arr e 1 size (List.replicate m b))).put d (.a7 k 1 size 0 m)):=by
 intro F a w next Q W X
 have G:=W.get l;rw[b9] at G;have L:=W.get c;rw[bB] at L;have G:=du G;have L:=du L;have p:=cH hs;have hp:0<size:=by simpa[Nat.blt_eq] using o
 obtain⟨c1,c2⟩:=(yv F w (own K F s.H) z).cells D;have q:z.cells.size=size:=by rw[c1,eG];simpa using p
 have r:(execOp a.eval ⟨d,.makeSlice t l c,ty,pos,af,g⟩).run K.P w= .ok (.value (.slice (some ⟨w.heap.size,0,none⟩) m m)) (w.alloc (.cells ((Array.range (m*size)).map (z.cells[· %z.cells.size]!)) e)):=by
  obtain⟨_,i,f,v,I,rV⟩:=he;have aV:(i.bytes:Int)*(m:Int)<=281474976710656:=by
   grind
  have:=run_make (P:=K.P) w t e i z hu f v .i64 .i64 m m O (gy _) aV O;simp only[Int.toNat_natCast,I,madeCells] at this;simp only[execOp,G,L,Sem.run_bind,this,Result.andThen_ok];rfl
 unfold Oper.wp;rw[r];have A:=W.new k 1 hk ((Array.range (m*size)).map (z.cells[· %z.cells.size]!)) e (.arr e 1 size (List.replicate m b)) λβ' hJ w' hw cu M=>⟨cD _,Or.inr ⟨w.heap.size,_,cu,by subst hw;exact iZ _ _,?_,?_,?_⟩⟩
 ·have N:(w.alloc (.cells ((Array.range (m*size)).map (z.cells[· %z.cells.size]!)) e)).heap.size=w.heap.size+1:=World.size_alloc ..;have U:(w.alloc (.cells ((Array.range (m*size)).map (z.cells[· %z.cells.size]!)) e)).shape? w.heap.size=some (e,m*size):=by unfold World.shape?;rw[iZ];simp
  have D:bh (F.put k (some (some w.heap.size,1))) (w.alloc (.cells ((Array.range (m*size)).map (z.cells[· %z.cells.size]!)) e)) (own K (F.put k (some (some w.heap.size,1))) (s.new k (.arr e 1 size (List.replicate m b))).H) (.a7 k 1 size 0 m)
    (.slice (some ⟨w.heap.size,0*size,none⟩) m m):= .a7 k 1 size 0 m m w.heap.size (m*size) e (cD _) (bQ _ _ _) (N▸ob _) U (by rw[dn]) (cD _) (by unfold maxLen;omega)
  rw[fT] at D;exact X _ _ _ (A.put d cn D)
 ·simp
 ·intro V qa
  grind
 intro i j V x y R hj Y;rw[sL] at R;split at R
 ·rename_i afv;cases R;have n:j<size:=by rw[<-p];exact(bM.1 hj).1
  have B:=l8 afv n;simp only[Array.getElem?_map,Array.getElem?_range,B,if_true,Option.map_some,Option.some.injEq] at Y;have C:(i*size+j)%z.cells.size=j:=by rw[q,Nat.add_comm,Nat.add_mul_mod_self_right,Nat.mod_eq_of_lt n]
  rw[C] at Y;have agq:z.cells[j]? =some y:=by rw[<-Y];rw[getElem!_pos _ _ O];simp[q,n]
  have h3:=c2 j (.t x) y (by rw[eG,er,hj];rfl) agq;have h4:=M _ _ h3;cases h4 with|t _ _ h=>exact h
 cases R
def Src(w:World)(X:Nat->Prop)(c:Nat)(a:List (List T))(u:Value):Prop:=
 (u= .slice none 0 0/\a=[])\/ ∃(b e l:Nat) (k:List Value),u= .slice (some ⟨b,e,none⟩) a.length l/\k.length=a.length*c/\
  (∀(j:Nat) x,k[j]? =some x->w.cell? ⟨b,e+j,none⟩=some x)/\(∀x,x∈k->x.oneCell'=true)/\
  ∀(i j:Nat) (h:List T) (x:T) (y:Value),a[i]? =some h->h[j]? =some x->k[i*c+j]? =some y->cL w X x y
theorem cL.im{x:T}{u:Value}(h:cL w X x u):u.oneCell'=true:=by cases h<;>rfl
theorem Fc{N:Map}{size:Nat}{e:List (List T)}{u:Value}(h:bh N w X (.t (.ay e)) u)(F: ∀k,k∈e->k.length=size)(r:0<size):
  Src w X size e u\/(e=[]/\ ∃a l,u= .slice a 0 l):=by
 cases h with
 |t _ _ h=>cases h with
  |fB a l=>exact .inr ⟨rfl,a,l,rfl⟩
  |ay _ b G c l f aV gb v n U I=>
   by_cases A:e=[]
   ·subst A;exact .inr ⟨rfl,_,_,rfl⟩
   obtain⟨M,B⟩:=Dj e A;have L:c=size:=by rw[<-n M B,F M B]
   subst L;refine .inl (.inr ⟨b,G,l,(List.range (e.length*c)).map λm=>f (m / c) (m%c),rfl,a1,λj x p=>?_,λx V=>?_,λi j k x y q Q D=>?_⟩)
   ·rw[er] at p;cases o:(List.range (e.length*c))[j]? with
    |none=>rw[o] at p;cases p
    |some R=>
     rw[o] at p;have C:j<e.length*c:=by simpa using (bM.1 o).1
     have W:R=j:=by rw[List.getElem?_range C] at o;cases o;rfl
     subst W;simp at p;rw[<-p]
     have:=U (R / c) (R%c) (by rw[vo r];exact C) (Nat.mod_lt _ r);rw[pf,Nat.mul_comm,Nat.div_add_mod] at this;exact this
   ·obtain⟨m,hm,rfl⟩:=et.1 V;have hm:=n'.1 hm;have q:m / c<e.length:=by rw[vo r];exact hm
    have Q:=Nat.mod_lt m r;have D:=n e[m / c] (ft q);exact(I (m / c) (m%c) e[m / c] (e[m / c])[m%c] (bg q) (bg O)).im
   have p:j<c:=by rw[<-n k (bC q)];exact(bM.1 Q).1
   have aD:=(bM.1 q).1;rw[er,List.getElem?_range (l8 aD p)] at D;simp at D;rw[<-D];have Y:(i*c+j) / c=i:=by rw[Nat.mul_comm,Nat.mul_add_div r,Nat.div_eq_of_lt p,qO]
   rw[Y,Nat.mod_eq_of_lt p];exact I i j k x q Q
end ops
end
variable {G β:Map}{k n:Nat}{a:Act}{w:World}
theorem AK{gen:Nat}(q:Option Nat)(b:Option Nat)(e:1<=gen)(h:G k=some (q,gen)):de G (G.put k (some (b,gen+1))):=by
 intro id i l a;by_cases c:id=k
 ·subst c;rw[h] at a;cases a;exact .inr ⟨e,b,gen+1,iF _ _ _,ob _⟩
 exact .inl (by rw[eo _ _ _ _ c];exact a)
theorem Rel.move{K:Ctx}{s:S}(h:Rel K β s a w)(k:Nat)(A:TypeId)(gen l:Nat)(F:List (List T))(I:s.H k=some (.arr A gen l F))(B:Array Value)(c:List (List T))
  (G:c.length*l<=B.size) (M: ∀n,n∈c->n.length=l) (N: ∀(i j:Nat) (n:List T) (x:T) (u:Value),c[i]? =some n->n[j]? =some x->B[i*l+j]? =some u->cL w (own K β s.H) x u):
  Rel K (β.put k (some (some w.heap.size,gen+1))) {s with H:=aQ s.H k (some (.arr A (gen+1) l c))} a (w.alloc (.cells B A)):=by
 have m: ∀X,Ext X w (w.alloc (.cells B A)):=λX=>Ext.alloc X w _;have L:s.u k=true:=(h.heap k _ I).1;obtain⟨nU,Q⟩:=iK (h.heap k _ I).2;have R:=(h.heap k _ I).2.1;have o: ∀id b,At (β.put k (some (some w.heap.size,gen+1))) id b->(id=k/\b=w.heap.size)\/At β id b:=λid b aV=>by
  rcases aV with ⟨g,aV⟩|aV
  ·by_cases q:id=k
   ·subst q;rw[iF] at aV;cases aV;exact .inl ⟨rfl,rfl⟩
   rw[eo _ _ _ _ q] at aV;exact .inr (.inl ⟨g,aV⟩)
  exact .inr (.inr aV)
 have r: ∀b,b<w.heap.size->own K (β.put k (some (some w.heap.size,gen+1))) (aQ s.H k (some (.arr A (gen+1) l c))) b->own K β s.H b:=by
  rintro b hlt (P|⟨id,D,W⟩)
  ·exact .inl P
  rcases o id b W with ⟨rfl,rfl⟩|C
  ·omega
  refine .inr ⟨id,λU=>?_,C⟩;by_cases q:id=k
  ·subst q;rw[I] at U;cases U
  rw[bR _ _ _ _ q] at D;exact D U
 have f:Shaped β w (w.alloc (.cells B A)):=p8 (m _);have E:=AK nU (some w.heap.size) R Q;have V: ∀v u,bh β w (own K β s.H) v u->bh (β.put k (some (some w.heap.size,gen+1))) (w.alloc (.cells B A)) (own K (β.put k (some (some w.heap.size,gen+1))) (aQ s.H k (some (.arr A (gen+1) l c)))) v u:=
  λv u bI=>bI.mono (m _) r E f
 refine {ext:=h.ext.trans ((m λ_=>False).weaken λ_ _ h=>h.elim),nK:=h.nK,nS:=h.nS,ia:=h.ia,qi:=h.qi,base:= ?_,iq:=h.iq.ext h.ext.size (m _),low:=h.low,dB:= ?_,dX:=λid b hid=>h.dX id b hid,inj:= ?_,fresh:= ?_,heap:= ?_,cU:=λi=>V _ _ (h.cU i),nt:=h.nt,defers:=h.defers}
 ·exact h.base.grow k gen nU (some w.heap.size) Q R (iF _ _ _) (λb aV=>by cases aV;exact .inr h.ext.size) λid q=>eo _ _ _ _ q
 ·intro id hid;have y:s.u id=false:=hid;by_cases e:id=k
  ·subst e;rw[L] at y;cases y
  rw[eo _ _ _ _ e];exact h.dB id y
 ·intro id Y b D W;rcases o id b D with ⟨rfl,rfl⟩|C<;>rcases o Y _ W with ⟨rfl,e⟩|h4
  ·rfl
  ·have:=(h.fresh _ _ h4).2;omega
  ·subst e;have:=(h.fresh _ _ C).2;omega
  exact h.inj _ _ _ C h4
 ·intro id b aV;rcases o id b aV with ⟨rfl,rfl⟩|C
  ·exact⟨.inr h.ext.size,a1⟩
  exact⟨(h.fresh _ _ C).1,by have:=(h.fresh _ _ C).2;simp;omega⟩
 intro id e' p;have p:aQ s.H k (some (.arr A (gen+1) l c)) id=some e':=p;show s.u id=true/\cy _ _ (own K _ (aQ s.H k (some (.arr A (gen+1) l c)))) id e';by_cases q:id=k
 ·subst q;rw[bQ] at p;cases p;refine⟨L,O,Or.inr ⟨w.heap.size,B,bQ _ _ _,iZ _ _,G,M,λi j n x u aH a2 a3=>(N i j n x u aH a2 a3).mono (m _) r⟩⟩
 rw[bR _ _ _ _ q] at p;obtain⟨D,W⟩:=h.heap id e' p;refine⟨D,W.mono (m _) r E (λx P=>by rw[eo _ _ _ _ q];exact P) f λb aV=>heap_alloc _ _ _ (h.fresh id b aV).2⟩
theorem Rel.bump{K:Ctx}{s:S}(h:Rel K β s a w)(k:Nat)(B:TypeId)(gen c:Nat)(l:List (List T))(q:Option Nat)(C:β k=some (q,gen))(Q:s.H k=some (.arr B gen c l)):
  Rel K (β.put k (some (q,gen+1))) {s with H:=aQ s.H k (some (.arr B (gen+1) c l))} a w:=by
 have D:s.u k=true:=(h.heap k _ Q).1;have F:=(h.heap k _ Q).2.1;have m: ∀id b,At (β.put k (some (q,gen+1))) id b->At β id b:=λid b aV=>by
  rcases aV with ⟨g,aV⟩|aV
  ·by_cases p:id=k
   ·subst p;rw[iF] at aV;cases aV;exact .inl ⟨gen,C⟩
   rw[eo _ _ _ _ p] at aV;exact .inl ⟨g,aV⟩
  exact .inr aV
 have r: ∀b,own K (β.put k (some (q,gen+1))) (aQ s.H k (some (.arr B (gen+1) c l))) b->own K β s.H b:=by
  rintro b (R|⟨id,o,A⟩)
  ·exact .inl R
  refine .inr ⟨id,λW=>?_,m id b A⟩;by_cases p:id=k
  ·subst p;rw[Q] at W;cases W
  rw[bR _ _ _ _ p] at o;exact o W
 have G:=AK q q F C;refine {h with base:= ?_,dB:= ?_,inj:= ?_,fresh:=λid b aV=>h.fresh id b (m id b aV),heap:= ?_,cU:=λi=>(h.cU i).mono (Ext.refl _ _) (λb _=>r b) G (Shaped.refl _ _)}
 ·exact h.base.grow k gen q q C F (bQ _ _ _) (λb aV=> .inl aV) λid p=>eo _ _ _ _ p
 ·intro id hid;have y:s.u id=false:=hid;by_cases e:id=k
  ·subst e;rw[D] at y;cases y
  rw[eo _ _ _ _ e];exact h.dB id y
 ·intro id L b o A;exact h.inj id L b (m id b o) (m L b A)
 intro id e' n;have n:aQ s.H k (some (.arr B (gen+1) c l)) id=some e':=n;show s.u id=true/\cy _ _ (own K _ (aQ s.H k (some (.arr B (gen+1) c l)))) id e';by_cases p:id=k
 ·subst p;rw[bQ] at n;cases n;refine⟨D,O,?_⟩;rcases(h.heap id _ Q).2.2 with ⟨o,A⟩|⟨b,f,o,A,v,E,I⟩
  ·rw[C] at o;cases o;exact .inl ⟨bQ _ _ _,A⟩
  rw[C] at o;cases o;exact .inr ⟨b,f,bQ _ _ _,A,v,E,λi j X x u aH a2 a3=>(I i j X x u aH a2 a3).mono (Ext.refl _ _) λb _=>r b⟩
 rw[bR _ _ _ _ p] at n;obtain⟨o,A⟩:=h.heap id e' n;exact⟨o,A.mono (Ext.refl _ _) (λb _=>r b) G (λx R=>by rw[eo _ _ _ _ p];exact R) (Shaped.refl _ _) λ_ _=>rfl⟩
theorem vN{K:Ctx}{s:S}(h:Rel K G s a w):Rel K G s a w.drew:=h.grow (Ext.drew _ _)
theorem vJ{size:Nat}{rows news:List (List T)}(c m e:List Value)(o:rows.length=n)(p:c.length=n*size)(D:m.length=news.length*size)(A: ∀a,a∈rows->a.length=size)(q: ∀a,a∈news->a.length=size){R:T->Value->Prop}
  (F: ∀(i j:Nat) (a:List T) (x:T) (u:Value),rows[i]? =some a->a[j]? =some x->c[i*size+j]? =some u->R x u)
  (G: ∀(i j:Nat) (a:List T) (x:T) (u:Value),news[i]? =some a->a[j]? =some x->m[i*size+j]? =some u->R x u):
  ∀(i j:Nat) (a:List T) (x:T) (u:Value),(rows++news)[i]? =some a->a[j]? =some x->(c++m++e)[i*size+j]? =some u->R x u:=by
 intro i j a x u h w B;by_cases k:i<rows.length
 ·rw[iu k] at h;have b:j<size:=by rw[<-A a (bC h)];exact(bM.1 w).1
  have l:i*size+j<c.length:=by rw[p,<-o];exact l8 k b
  grind
 rw[hi O] at h;have b:j<size:=by rw[<-q a (bC h)];exact(bM.1 w).1
 have r:=(bM.1 h).1;have l:=l8 (size:=size) r b;have C:c.length<=i*size+j:=by rw[p,<-o];have:=dt size (O:rows.length<=i);omega
 have y:i*size+j-c.length=(i-rows.length)*size+j:=by rw[p,<-o,Nat.sub_mul];have:=dt size (O:rows.length<=i);omega
 grind
theorem Rel.append{K:Ctx}{s:S}{t e:TypeId}{u:TypeDesc}{z:Value}{gen size I:Nat}(h:Rel K β s a w)(k:Nat)(c l:List (List T))(hk:s.H k=some (.arr e gen size c))(ty:TypeId)
  (hu:K.P.underlying t=some (.slice e)) (he:b4 K.P e u z size I) (qb:z.cells.size=size) (hs: ∀m,m∈c->m.length=size) (hs': ∀m,m∈l->m.length=size) (v x:Value) (bI:bh β w (own K β s.H) (.a7 k gen size 0 c.length) v)
  (hx:Src w (own K β s.H) size l x\/(l=[]/\ ∃fW r,x= .slice fW 0 r)) (aV:(c.length+l.length)*I<=140737488355328) (hm:c.length+l.length<=maxLen):
  ∃c8 w' A,(Builtin.append_ #[t,t] ty #[v,x]).run K.P w= .ok c8 w'/\Rel K A {s with H:=aQ s.H k (some (.arr e (gen+1) size (c++l)))} a w'/\
   bh A w' (own K A (aQ s.H k (some (.arr e (gen+1) size (c++l))))) (.a7 k (gen+1) size 0 (c.length+l.length)) c8:=by
 obtain⟨q,hq⟩:=iK (h.heap k _ hk).2;have ig:=(h.heap k _ hk).2.1;obtain⟨_,i,M,hi2,X,rV⟩:=id he;have hm':c.length+l.length<=9223372036854775807:=by unfold maxLen at hm;omega
 have hE:=(h.heap k _ hk).2.2;have xD: ∀m,m∈c++l->m.length=size:=λm qa=>by
  rcases ef.1 qa with h|h
  ·exact hs m h
  exact hs' m h
 -- nothing is appended
 have Q:l=[]-> ∀fW r,x= .slice fW 0 r-> ∃c8 w' A,(Builtin.append_ #[t,t] ty #[v,x]).run K.P w= .ok c8 w'/\Rel K A {s with H:=aQ s.H k (some (.arr e (gen+1) size (c++l)))} a w'/\
   bh A w' (own K A (aQ s.H k (some (.arr e (gen+1) size (c++l))))) (.a7 k (gen+1) size 0 (c.length+l.length)) c8:=by
  intro cu fW r G;subst cu;subst G;rw[jU];refine⟨v,w,_,?_,h.bump k e gen size c q hq hk,?_⟩
  ·rcases eT bI hq with ⟨xc,b,n,gV,rfl,L,hw,D,f,b9,lZ⟩|⟨L,_,_,rfl⟩
   ·cases fW<;>simp[Builtin.append_,run_underlying hu,sizeOf,typeInfo,M,Builtin.lenOf,Builtin.firstCells,b9,storeCells,loadCells,loadCellsFrom]
   cases fW<;>simp[Builtin.append_,run_underlying hu,sizeOf,typeInfo,M,Builtin.lenOf,Builtin.firstCells,loadCells,loadCellsFrom]
  simp only[List.length_nil,Nat.add_zero];rcases eT bI hq with ⟨xc,b,n,gV,rfl,L,hw,D,f,b9,lZ⟩|⟨L,_,Iu,rfl⟩
  ·subst L;exact .a7 k (gen+1) size 0 _ xc b n gV O (bQ _ _ _) hw D f b9 lZ
  subst L;rw[Iu];exact .gT k (gen+1) size O (bQ _ _ _)
 rcases hx with (⟨G,f⟩|⟨cd,off,N,B,G,W,xF,kI,hwr⟩)|⟨cu,fW,r,G⟩
 ·exact Q f none 0 G
 ·by_cases l0:l=[]
  ·subst l0;exact Q rfl _ _ G
  have afR:0<l.length:=List.length_pos_iff.2 l0;have U: ∀j y,B[j]? =some y->w.cell? ((⟨cd,off,none⟩:Addr).add j)=some y:=λj y hy=>by rw[iE];exact xF j y hy
  have j':(c.length+l.length)*i.bytes<=140737488355328:=by rw[rV];exact aV
  -- the rows that lie there
  have finish: ∀(E:List Value) (o:Nat),E.length=c.length*size->c.length+l.length<=o->o<=maxLen->(∀(i j:Nat) (m:List T) (x:T) (u:Value),c[i]? =some m->m[j]? =some x->E[i*size+j]? =some u->cL w (own K β s.H) x u)->
    ∃A,Rel K A {s with H:=aQ s.H k (some (.arr e (gen+1) size (c++l)))} a (w.drew.alloc (.cells (E.toArray++B.toArray++Builtin.zeroCells z.cells (o-(c.length+l.length))) e))/\
     bh A (w.drew.alloc (.cells (E.toArray++B.toArray++Builtin.zeroCells z.cells (o-(c.length+l.length))) e)) (own K A (aQ s.H k (some (.arr e (gen+1) size (c++l))))) (.a7 k (gen+1) size 0 (c.length+l.length)) (.slice (some ⟨w.heap.size,0,none⟩) (c.length+l.length) o):=by
   intro E o oT V hcm IE;have Y:(E.toArray++B.toArray++Builtin.zeroCells z.cells (o-(c.length+l.length))).size=o*size:=by
    simp only[Array.size_append,List.size_toArray,size_zeroCells,qb,oT,W,<-Nat.add_mul];congr 1;omega
   have rZ:=(vN h).move k e gen size c hk (E.toArray++B.toArray++Builtin.zeroCells z.cells (o-(c.length+l.length))) (c++l)
    (by rw[Y,cP];exact dt _ V) xD
    (λi j m x u aH a2 a3=>vJ E B (Builtin.zeroCells z.cells (o-(c.length+l.length))).toList rfl oT W hs hs' (R:=λx u=>cL w.drew (own K β s.H) x u) (λi j m x u cS cd eK=>(IE i j m x u cS cd eK).mono (Ext.drew _ _) λ_ _ h=>h)
     (λi j m x u cS cd eK=>(hwr i j m x u cS cd eK).mono (Ext.drew _ _) λ_ _ h=>h) i j m x u aH a2 (by simpa[<-Array.getElem?_toList] using a3))
   refine⟨_,rZ,?_⟩;have hN:bh (β.put k (some (some w.heap.size,gen+1))) (w.drew.alloc (.cells (E.toArray++B.toArray++Builtin.zeroCells z.cells (o-(c.length+l.length))) e)) (own K (β.put k (some (some w.heap.size,gen+1))) (aQ s.H k (some (.arr e (gen+1) size (c++l))))) (.a7 k (gen+1) size 0 (c.length+l.length)) (.slice (some ⟨w.heap.size,0*size,none⟩) (c.length+l.length) o):=by
    have p':=iZ w.drew (.cells (E.toArray++B.toArray++Builtin.zeroCells z.cells (o-(c.length+l.length))) e);refine .a7 k (gen+1) size 0 _ o w.heap.size (o*size) e O (bQ _ _ _) a1 ?_ (by rw[dn]) V hcm;have Iv:(w.drew.alloc (.cells (E.toArray++B.toArray++Builtin.zeroCells z.cells (o-(c.length+l.length))) e)).heap[w.heap.size]? =some (.cells (E.toArray++B.toArray++Builtin.zeroCells z.cells (o-(c.length+l.length))) e):=p';unfold World.shape?;rw[Iv];simp only[Y]
   rw[fT] at hN;exact hN
  subst G;rcases eT bI hq with ⟨r,b,n,gV,rfl,L,hw,D,f,b9,lZ⟩|⟨L,_,It,rfl⟩
  rotate_left
  ·have oR:c=[]:=km It;subst oR;have C:=run_append_nil (P:=K.P) w t ty e i z hu M hi2 ⟨cd,off,none⟩ l.length N B (by rw[X];exact W) U afR O (by simp at j';omega);obtain⟨A,f1,f2⟩:=finish [] (grownCap w l.length 0 e) a1 (by simpa using grownCap_ge w l.length 0 e) (grownCap_le_maxLen w _ 0 e (by unfold maxLen;simp at hm';omega)) λi j m x u h1 _ _=>by simp at h1
   simp only[List.length_nil,Nat.zero_add] at f1 f2⊢;exact⟨_,_,A,by rw[C];simp,f1,f2⟩
  subst L;rcases hE with ⟨g1,_⟩|⟨fH,p,g1,g2,g3,g4,g5⟩
  ·rw[hq] at g1;cases g1
  rw[hq] at g1;cases g1;have kE:p.size=r*size:=by
   unfold World.shape? at D;rw[g2] at D;simp at D;rw[<-f] at D;rw[dn] at D;exact D.2
  have r4:(p.toList.take (c.length*size)).length=c.length*size:=bX
  have ll: ∀(i j:Nat) (m:List T) (x:T) (u:Value),c[i]? =some m->m[j]? =some x->(p.toList.take (c.length*size))[i*size+j]? =some u->cL w (own K β s.H) x u:=by
   intro i j m x u h1 h2 h3;rw[fL] at h3;split at h3
   ·exact g5 i j m x u h1 h2 (by simpa using h3)
   cases h3
  simp only[Nat.zero_mul];by_cases F:c.length+l.length<=r
  ·have mR:c.length*size+B.length<=p.size:=by rw[W,kE,<-dC];exact dt _ F
   have C:=run_append_room (P:=K.P) w t ty e i hu M b c.length r p g2 ⟨cd,off,none⟩ l.length N B (by rw[X];exact W) U kI F (by rw[X];exact mR);rw[X] at C;have ux:(p.toList.take (c.length*size)++B++p.toList.drop (c.length*size+B.length)).toArray.size=p.size:=by
    simp;omega
   have hrel:=h.setRow k b (.inl ⟨_,hq⟩) p e g2 (p.toList.take (c.length*size)++B++p.toList.drop (c.length*size+B.length)).toArray ux (.arr e gen size (c++l)) (by rw[hk];simp)
    ⟨ig,Or.inr ⟨b,_,hq,setRow_heap _ _ _ _ _ _ g2,by rw[ux,kE,cP];exact dt _ F,xD,
     λi j m x u aH a2 a3=>by
      have h9:=vJ (p.toList.take (c.length*size)) B (p.toList.drop (c.length*size+B.length)) rfl r4 W hs hs' (R:=λx u=>cL w (own K β s.H) x u) ll hwr i j m x u aH a2 (by simpa using a3);refine h9.mono ⟨rfl,rfl,rfl,a1,λkk _ hx=>setRow_other _ _ _ _ λe0=>hx ?_⟩ λ_ _ h=>h;subst e0;exact .inr ⟨k,by rw[hk];simp,.inl ⟨_,hq⟩⟩⟩⟩
   have xA:=hrel.bump k e gen size (c++l) (some b) hq (bQ _ _ _);have xp:aQ (aQ s.H k (some (.arr e gen size (c++l)))) k (some (.arr e (gen+1) size (c++l)))=aQ s.H k (some (.arr e (gen+1) size (c++l))):=by
    funext j;by_cases hj:j=k
    ·subst hj;rw[bQ,bQ]
    rw[bR _ _ _ _ hj,bR _ _ _ _ hj,bR _ _ _ _ hj]
   simp only[xp] at xA;refine⟨_,_,_,C,xA,?_⟩;have hN:bh (β.put k (some (some b,gen+1))) (w.setRow b (p.toList.take (c.length*size)++B++p.toList.drop (c.length*size+B.length)).toArray) (own K (β.put k (some (some b,gen+1))) (aQ s.H k (some (.arr e (gen+1) size (c++l))))) (.a7 k (gen+1) size 0 (c.length+l.length)) (.slice (some ⟨b,0*size,none⟩) (c.length+l.length) r):=by
    refine .a7 k (gen+1) size 0 _ r b (r*size) e O (bQ _ _ _) (by simpa using hw) ?_ (by rw[dn]) F lZ;unfold World.shape?;rw[setRow_heap _ _ _ _ _ _ g2];simp only[ux,kE]
   rw[fT] at hN;exact hN
  have holds: ∀j u,(p.toList.take (c.length*size))[j]? =some u->w.cell? ((⟨b,0,none⟩:Addr).add j)=some u:=by
   intro j u hj;rw[iE,dn];rw[fL] at hj;split at hj
   ·simp only[World.cell?,g2];simpa using hj
   cases hj
  have C:=run_append_grow (P:=K.P) w t ty e i z hu M hi2 ⟨b,0,none⟩ c.length r (p.toList.take (c.length*size)) (by rw[X];exact r4) holds ⟨cd,off,none⟩ l.length N B (by rw[X];exact W) U O O (growslice_fits O j');obtain⟨A,f1,f2⟩:=finish (p.toList.take (c.length*size)) (grownCap w (c.length+l.length) r e) r4 (grownCap_ge w _ r e) (grownCap_le_maxLen w _ r e hm) ll;exact⟨_,_,A,C,f1,f2⟩
 exact Q cu fW r G
section ops
variable {K:Ctx}{s:S}{d:Option Tmp}{ty:TypeId}{pos:String}{af:Array Edge}{g:Option (Nat×Bool)}
variable {t:TypeId}{u:TypeDesc}{z:Value}{gen size bytes:Nat}
def Rows(size:Nat)(rows:List (List T)):Prop:= ∀a,a∈rows->a.length=size
theorem Rows.nil(size:Nat):Rows size []:=λ_ h=>by simp at h
theorem Rows.map{a:Type}{size:Nat}{f:a->List T}(l:List a)(h: ∀x,(f x).length=size):Rows size (l.map f):=λb c=>by obtain⟨x,_,rfl⟩:=et.1 c;exact h x
theorem ZQ(k:Nat)(x y:Operand)(e:TypeId)(b c:List (List T))(B: ∀i,d=some i->Nat.blt i K.nt=true)(C:s.get x= .a7 k gen size 0 b.length)(D:dq (s.get y) (.t (.ay c)))(F:s.H k=some (.arr e gen size b))
  (G:K.P.underlying t=some (.slice e)) (L:b4 K.P e u z size bytes) (n:Nat.beq z.cells.size size=true) (R:Nat.blt 0 size=true) (W:Rows size b) (h:Rows size c)
  (X:(b.length+c.length)*bytes<=140737488355328) (I:b.length+c.length<=9223372036854775807):
  dL K ⟨d,.call {callee:= .builtin .append,args:= #[x,y],argTypes:= #[t,t]},ty,pos,af,g⟩ s
   (({s with H:=aQ s.H k (some (.arr e (gen+1) size (b++c)))}:S).put d (.a7 k (gen+1) size 0 (b.length+c.length))):=by
 intro M a w next Q o p
 have l:=o.get x;rw[C] at l;have q:=D _ _ _ _ (o.get y);have r:0<size:=by simpa[Nat.blt_eq] using R
 obtain⟨f,w',A,j,v,E⟩:=o.append k b c F ty G L (cH n) W h _ _ l (Fc q h r) X (by unfold maxLen;omega);unfold Oper.wp;have m:(execOp a.eval ⟨d,.call {callee:= .builtin .append,args:= #[x,y],argTypes:= #[t,t]},ty,pos,af,g⟩).run K.P w= .ok (.value f) w':=by
  simp[execOp,resolve,invoke,builtin,j]
 rw[m];exact p A _ w' (v.put d B E)
theorem Mq(Q:Nat->V)(k:Nat)(e:TypeId)(F:s.u k=false)(n: ∀(i q:Map) (w:World) (X R:Nat->Prop) (j:Nat) (u:Value),q k=some (none,1)->(∀v u,bh i w X v u->bh q w R v u)->bh i w X (s.t j) u->bh q w R (Q j) u):
  s.le K {t:=Q,H:=aQ s.H k (some (.arr e 1 size [])),u:=aQ s.u k true}:=by
 intro i a w h;have r:i k=none:=h.dB _ F;have o: ∀id x,i id=some x->i.put k (some (none,1)) id=some x:=λid x A=>by
  rw[eo _ _ _ _ (by intro e;subst e;rw[r] at A;cases A)];exact A
 have B:=de.of o;have l: ∀id b,At (i.put k (some (none,1))) id b->id≠k/\At i id b:=λid b aV=>by
  by_cases n:id=k
  ·subst n;rcases aV with ⟨g,aV⟩|aV
   ·rw[iF] at aV;cases aV
   exact bt aV (h.dX _ _ F)
  refine⟨n,?_⟩;rcases aV with ⟨g,aV⟩|aV
  ·rw[eo _ _ _ _ n] at aV;exact .inl ⟨g,aV⟩
  exact .inr aV
 have p: ∀b,own K (i.put k (some (none,1))) (aQ s.H k (some (.arr e 1 size []))) b->own K i s.H b:=by
  rintro b (A|⟨id,y,C⟩)
  ·exact .inl A
  obtain⟨G,W⟩:=l id b C;rw[bR _ _ _ _ G] at y;exact .inr ⟨id,y,W⟩
 have L: ∀v u,bh i w (own K i s.H) v u->bh (i.put k (some (none,1))) w (own K (i.put k (some (none,1))) (aQ s.H k (some (.arr e 1 size [])))) v u:=
  λv u f=>f.mono (Ext.refl _ _) (λb _=>p b) B (Shaped.refl _ _)
 refine⟨i.put k (some (none,1)),{h with base:= ?_,low:= ?_,dB:= ?_,dX:= ?_,inj:= ?_,fresh:= ?_,heap:= ?_,cU:= ?_}⟩
 ·refine h.base.keep λid hid=>?_
  have:=h.low id hid;rw[eo _ _ _ _ (by intro e;subst e;rw[F] at this;cases this)]
 ·intro id hid;show aQ s.u k true id=true;by_cases e:id=k
  ·subst e;exact bQ _ _ _
  rw[bR _ _ _ _ e];exact h.low id hid
 ·intro id hid;have c:aQ s.u k true id=false:=hid;by_cases e:id=k
  ·subst e;rw[bQ] at c;cases c
  rw[bR _ _ _ _ e] at c;rw[eo _ _ _ _ e];exact h.dB id c
 ·intro id b hid;have c:aQ s.u k true id=false:=hid;by_cases e:id=k
  ·subst e;rw[bQ] at c;cases c
  rw[bR _ _ _ _ e] at c;exact h.dX id b c
 ·intro id D b y C;exact h.inj id D b (l id b y).2 (l D b C).2
 ·intro id b aV;exact h.fresh id b (l id b aV).2
 ·intro id e' m;have m:aQ s.H k (some (.arr e 1 size [])) id=some e':=m;show aQ s.u k true id=true/\cy _ _ (own K _ (aQ s.H k (some (.arr e 1 size [])))) id e';by_cases n:id=k
  ·subst n;rw[bQ] at m;cases m;exact⟨bQ _ _ _,cD _,Or.inl ⟨bQ _ _ _,rfl⟩⟩
  rw[bR _ _ _ _ n] at m;obtain⟨y,C⟩:=h.heap id e' m;exact⟨by rw[bR _ _ _ _ n];exact y,C.mono (Ext.refl _ _) (λb _=>p b) B (o id) (Shaped.refl _ _) λ_ _=>rfl⟩
 intro j;exact n i _ w _ _ j _ (bQ _ _ _) L (h.cU j)
theorem N9{U:Map}{X W:Nat->Prop}{u:Value}(a:G k=some (none,1))(h:bh U w X (.t .e5) u):bh G w W (.a7 k 1 n 0 0) u:=by
 cases h with
 |t _ _ b=>cases b;exact .gT k 1 n (cD _) a
theorem abq(i k:Nat)(e:TypeId)(c:s.u k=false)(l:s.t i= .t .e5):s.le K {t:=aQ s.t i (.a7 k 1 size 0 0),H:=aQ s.H k (some (.arr e 1 size [])),u:=aQ s.u k true}:=
 Mq _ k e c (λo m w X p j u n a h=>by
  by_cases b:j=i
  ·subst b;rw[bQ];rw[l] at h;exact N9 n h
  rw[bR _ _ _ _ b];exact a _ _ h)
theorem ZI(i j k:Nat)(e:TypeId){Y:List V}(q:s.u k=false)(r:s.t i= .agg Y)(n:Y[j]? =some (.t .e5)):s.le K {t:=aQ s.t i (.agg (Y.set j (.a7 k 1 size 0 0))),H:=aQ s.H k (some (.arr e 1 size [])),u:=aQ s.u k true}:=
 Mq _ k e q (λD x w X F y u A a h=>by
  by_cases b:y=i
  ·subst b;rw[bQ];rw[r] at h;cases h with|agg _ B C o=>
   refine .agg _ B (by simpa using C) λi c u m p=>?_;by_cases l:i=j
   ·subst l;rw[ir (bM.1 n).1] at m;cases m;exact N9 A (o i _ u n p)
   rw[jT (kV l)] at m;exact a _ _ (o i c u m p)
  rw[bR _ _ _ _ b];exact a _ _ h)
theorem KK(W:Nat->V)(k:Nat)(e:TypeId)(c:List (List T))(X:Nat.ble K.c6 k=true)(aD: ∀i,W i=s.t i\/(W i= .t (.ay c)/\s.t i= .a7 k gen size 0 c.length))(f:s.H k=some (.arr e gen size c)):
  s.le K {t:=W,H:=aQ s.H k none,u:=s.u}:=by
 intro B a w h;have Y:=eB X;obtain⟨q,C⟩:=iK (h.heap k _ f).2;have ig:=(h.heap k _ f).2.1;have p: ∀b,own K B (aQ s.H k none) b->own K B s.H b:=by
  rintro b (v|⟨id,l,D⟩)
  ·exact .inl v
  by_cases hid:id=k
  ·subst hid;rw[bQ] at l;exact bt rfl l
  rw[bR _ _ _ _ hid] at l;exact .inr ⟨id,l,D⟩
 have F: ∀b,q=some b-> ¬own K B (aQ s.H k none) b:=by
  rintro b N (v|⟨id,l,D⟩)
  ·subst N;obtain⟨gK,iT⟩:=h.ia b v;rcases(h.fresh k b (.inl ⟨_,C⟩)).1 with r|iI
   ·exact iT r
   omega
  subst N
  have:=h.inj _ _ _ D (.inl ⟨_,C⟩);subst this;rw[bQ] at l;exact l rfl
 refine⟨B,{h with heap:= ?_,cU:= ?_}⟩
 ·intro id e' m;have m:aQ s.H k none id=some e':=m;by_cases hid:id=k
  ·subst hid;rw[bQ] at m;cases m
  rw[bR _ _ _ _ hid] at m;obtain⟨l,D⟩:=h.heap id e' m;exact⟨l,D.mono (Ext.refl _ _) (λb _=>p b) (de.refl _) (λ_ h=>h) (Shaped.refl _ _) λ_ _=>rfl⟩
 intro j;show bh B w _ (W j) _;rcases aD j with A|⟨A,aD⟩
 rotate_left
 ·rw[A];have l:=h.cU j;rw[aD] at l;generalize a.tmps.getD j undef=y at l;rcases eT l C with ⟨E,b,n,gV,rfl,G,hw,gd,r1,b9,lZ⟩|⟨G,_,I,rfl⟩
  ·subst G;rcases(h.heap k _ f).2.2 with ⟨L,_⟩|⟨fH,o,L,g2,g3,P,g5⟩
   ·rw[C] at L;cases L
   rw[C] at L;cases L;rw[fT];refine .t _ _ (.ay c b 0 size E (λi j=>o.getD (i*size+j) undef) hw (F b rfl) b9 P (λi j aD A=>?_) λi j Q x M U=>?_)
   ·have R:=l8 (size:=size) aD A
    have:i*size+j<o.size:=O
    simp[World.cell?,g2,this]
   have aD:=(bM.1 M).1;have A:j<size:=by rw[<-P Q (bC M)];exact(bM.1 U).1
   have R:=l8 (size:=size) aD A;have r:i*size+j<o.size:=O
   have h6:=g5 i j Q x o[i*size+j] M U (by simp[r])
   have:o.getD (i*size+j) undef=o[i*size+j]:=by simp[r]
   rw[this];exact h6.mono (Ext.refl _ _) λb _=>p b
  have:c=[]:=km I;subst this;exact .t _ _ (.fB _ _)
 rw[A];exact(h.cU j).mono (Ext.refl _ _) (λb _=>p b) (de.refl _) (Shaped.refl _ _)
theorem WZ(i k:Nat)(e:TypeId)(a:List (List T))(b:Nat.ble K.c6 k=true)(h:s.t i= .a7 k gen size 0 a.length)(l:s.H k=some (.arr e gen size a)):
  s.le K {t:=aQ s.t i (.t (.ay a)),H:=aQ s.H k none,u:=s.u}:=
 KK _ k e a b (λj=>by
  by_cases c:j=i
  ·subst c;exact .inr ⟨bQ _ _ _,h⟩
  exact .inl (bR _ _ _ _ c)) l
theorem Xt(x y:Operand)(C i c:Nat)(e:TypeId)(o:List (List T))(l:List T)(m:List T)(hx:s.get x= .ct C gen size i c){v:V}(hle:dq (s.get y) v)(hy:v.cs=m.map .t)(ln:v.val=true)(X:s.H C=some (.arr e gen size o)){A:Nat}(eO:b4 K.P t u z A bytes)
  (B:o[i]? =some l) (hs:m.length=A) (b9:c+A<=size):
  dL K ⟨none,.store t x y,ty,pos,af,g⟩ s {s with H:=aQ s.H C (some (.arr e gen size (o.set i (l.take c++m++l.drop (c+m.length)))))}:=by
 intro β a w next Q R hk
 have f:=R.get x;rw[hx] at f;obtain⟨q,hq⟩:=iK (R.heap C _ X).2;obtain⟨b,jc,r8⟩:=m9 f hq;subst jc;have aV:=hq;have aD:=(bM.1 B).1;rcases(R.heap C _ X).2.2 with ⟨_,E⟩|⟨fH,p,h1,E,h3,h4,h5⟩
 ·rw[E] at aD;simp at aD
 rw[aV] at h1;cases h1;obtain⟨c1,c2⟩:=(hle _ _ _ _ (R.get y)).cells ln;rw[hy] at c1 c2;have I:(a.eval y).cells.size=A:=by rw[c1];simpa using hs
 have hrl:l.length=size:=h4 l (bC B);have aib:i*size+size<=p.size:=by
  have:(i+1)*size<=o.length*size:=dt _ aD;rw[dC] at this;omega
 have M: ∀e∈(a.eval y).cells.toList,e.oneCell'=true:=by
  intro e he;obtain⟨j,hj⟩:=iQ.1 he;have N:(a.eval y).cells[j]? =some e:=by simpa using hj
  have U:j<m.length:=by have:=(iP.1 N).1;rw[c1] at this;simpa using this
  exact(c2 j (.t m[j]) e (by simp[U]) N).im rfl
 unfold Oper.wp;have Y:=CJ eO w b (i*size+c) p e (a.eval y) E I O M;have G:(execOp a.eval ⟨none,.store t x y,ty,pos,af,g⟩).run K.P w= .ok .skip (w.setRow b (p.toList.take (i*size+c)++(a.eval y).cells.toList++p.toList.drop (i*size+c+(a.eval y).cells.toList.length)).toArray):=by
  simp only[execOp,r8,Instr.storeAt,Instr.sureAddr,Sem.run_bind,Sem.run_pure,Result.andThen_ok,Y]
 rw[G];have nL:(a.eval y).cells.toList.length=m.length:=by simp[c1]
 have D:(p.toList.take (i*size+c)++(a.eval y).cells.toList++p.toList.drop (i*size+c+(a.eval y).cells.toList.length)).length=p.size:=by
  simp[I];omega
 refine hk β _ _ (Rel.setRow R C b (.inl ⟨_,aV⟩) p e E _ (by simpa using D) (.arr e gen size (o.set i (l.take c++m++l.drop (c+m.length)))) (by rw[X];simp) ?_);have hb':own K β s.H b:= .inr ⟨C,by rw[X];simp,.inl ⟨_,aV⟩⟩;have L: ∀x u,cL w (own K β s.H) x u->cL (w.setRow b (p.toList.take (i*size+c)++(a.eval y).cells.toList++p.toList.drop (i*size+c+(a.eval y).cells.toList.length)).toArray) (own K β s.H) x u:=by
  intro v u bI;exact bI.mono ⟨rfl,rfl,rfl,a1,λk _ hx=>setRow_other _ _ _ _ λe=>hx (e▸hb')⟩ λ_ _ h=>h
 have Qt:(l.take c++m++l.drop (c+m.length)).length=size:=bX
 refine⟨(R.heap C _ X).2.1,Or.inr ⟨b,_,aV,setRow_heap _ _ _ _ _ _ E,?_,?_,?_⟩⟩
 ·simp only[List.size_toArray,D,List.length_set];exact h3
 ·intro r af5;rcases qM af5 with h|h
  ·exact h4 r h
  rw[h];exact Qt
 intro n j F hW W aH a2 a3;apply L;have a3:(p.toList.take (i*size+c)++(a.eval y).cells.toList++p.toList.drop (i*size+c+(a.eval y).cells.toList.length))[n*size+j]? =some W:=by simpa using a3
 simp only[List.getElem?_append,List.length_append,List.length_take,List.getElem?_take,List.getElem?_drop,Array.length_toList] at a3;rw[show min (i*size+c) p.size=i*size+c by omega,show(a.eval y).cells.size=m.length by simpa using nL] at a3;by_cases xx:n=i
 ·subst xx;rw[ir aD] at aH;cases aH;have hjs:j<size:=by rw[<-Qt];exact(bM.1 a2).1
  simp only[List.getElem?_append,List.length_append,List.length_take,List.getElem?_take,List.getElem?_drop,hrl] at a2;rw[show min c size=c by omega] at a2;by_cases cS:j<c
  ·rw[aW O,aW cS,aW cS] at a2;rw[aW O,aW O,aW O] at a3;exact h5 n j l hW W B a2 (by simpa using a3)
  by_cases cd:j<c+m.length
  ·rw[aW O,aT cS] at a2;rw[aW O,aT O] at a3;rw[show n*size+j-(n*size+c)=j-c by omega] at a3;have h9:=c2 (j-c) (.t hW) W (by rw[er,a2];rfl) (by simpa using a3);cases h9 with|t _ _ h=>exact h
  rw[aT O] at a2;rw[aT O] at a3;rw[show c+m.length+(j-(c+m.length))=j by omega] at a2;rw[show n*size+c+m.length+(n*size+j-(n*size+c+m.length))=n*size+j by omega] at a3;exact h5 n j l hW W B a2 (by simpa using a3)
 rw[jT (kV xx)] at aH;have hjs:j<size:=by rw[<-h4 F (bC aH)];exact(bM.1 a2).1
 have hold:p[n*size+j]? =some W:=by
  rcases Nat.lt_or_ge n i with U|iI
  ·have:n*size+size<=i*size:=by have:=dt size (O:n+1<=i);rw[dC] at this;omega
   rw[aW O,aW O,aW O] at a3;simpa using a3
  have:i*size+size<=n*size:=by have:=dt size (O:i+1<=n);rw[dC] at this;omega
  rw[aT O] at a3;rw[show i*size+c+m.length+(n*size+j-(i*size+c+m.length))=n*size+j by omega] at a3;simpa using a3
 exact h5 n j F hW W aH a2 hold
end ops
end Go.Lift
