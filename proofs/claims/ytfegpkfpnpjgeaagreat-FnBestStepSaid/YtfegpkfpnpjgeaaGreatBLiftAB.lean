/- Tools. -/
import Derived.Tactics
import Derived.Deep.Quiet
import Derived.Laws.World
import Derived.Laws.Sem
import Derived.WalkKit
namespace Go.Lift
open Go
abbrev bD:=@decide_eq_false
abbrev bF:=@decide_eq_true
abbrev a1.{u}:=@if_pos.{u}
abbrev aZ.{u}:=@if_neg.{u}
abbrev bz.{u}:=@absurd.{u}
abbrev eX:=@of_decide_eq_true
section
variable {p:Prop}{X A:Nat->Prop}{a b c w w':World}{v u:Value}{m:Option Nat}{i j k n sz:Nat}
theorem O(h:p:=by omega):p:=h
theorem Z(h:p:=by dsimp only;omega):p:=h
theorem J(h:p:=by kernel_rfl):p:=h
theorem aP(h:p:=by simp):p:=h
theorem bN(h:p:=by simp;omega):p:=h
abbrev bo.{u}:=@List.getElem?_eq_getElem.{u}
abbrev bE.{u}:=@List.mem_of_getElem?.{u}
abbrev bU.{u}:=@List.getElem?_eq_some_iff.{u}
abbrev cL:=@Nat.eq_of_beq_eq_true
abbrev cE.{u}:=@List.length_take.{u}
abbrev cV.{u}:=@List.length_append.{u}
abbrev dx:=@Nat.mul_le_mul_right
abbrev m7:=@Int.toNat_natCast
abbrev dY:=@Nat.le_of_ble_eq_true
abbrev eL.{u}:=@List.getD_eq_getElem?_getD.{u}
abbrev dz.{u}:=@List.take_length.{u}
abbrev dn.{u,v}:=@List.length_map.{u,v}
abbrev ew.{u}:=@List.mem_cons_of_mem.{u}
abbrev cJ:=@Nat.le_refl
abbrev eg.{u}:=@List.take_add_one.{u}
abbrev ev.{u,v}:=@List.getElem?_map.{u,v}
abbrev e6.{u}:=@List.mem_of_mem_drop.{u}
abbrev eM.{u}:=@List.mem_cons_self.{u}
abbrev dt:=@Nat.zero_add
abbrev dL.{u}:=@List.mem_cons.{u}
abbrev eh.{u}:=@List.mem_append.{u}
abbrev hr.{u}:=@Array.getElem?_eq_getElem.{u}
abbrev gb.{u}:=@List.mem_of_mem_take.{u}
abbrev dG:=@Nat.add_mul
abbrev js.{u}:=@Array.getElem?_eq_some_iff.{u}
abbrev jt.{u}:=@List.getElem?_append_right.{u}
abbrev fy.{u}:=@List.append_assoc.{u}
abbrev fS.{u}:=@List.getElem?_take.{u}
abbrev hS.{u}:=@List.take_of_length_le.{u}
abbrev eR.{u}:=@List.length_set.{u}
abbrev fz.{u}:=@List.length_drop.{u}
abbrev gy.{u}:=@List.getElem?_drop.{u}
abbrev jS.{u}:=@List.getElem?_append_left.{u}
abbrev fJ.{u}:=@List.getElem_mem.{u}
abbrev ey.{u,v}:=@List.mem_map.{u,v}
abbrev jr.{u}:=@List.getElem?_set_self.{u}
abbrev l1.{u}:=@List.eq_nil_of_length_eq_zero.{u}
abbrev fZ.{u}:=@List.all_eq_true.{u}
abbrev kN.{u}:=@List.drop_eq_getElem_cons.{u}
abbrev kf.{u}:=@List.mem_iff_getElem?.{u}
abbrev gL:=@Bool.eq_iff_iff
abbrev kO.{u}:=@List.drop_eq_nil_of_le.{u}
abbrev fK:=@Bool.true_and
abbrev ho.{u,v}:=@List.map_append.{u,v}
abbrev iU.{u}:=@List.any_eq_true.{u}
abbrev lg.{u}:=@List.getElem?_set_ne.{u}
abbrev lh.{u}:=@List.getElem?_of_mem.{u}
abbrev f':=@Nat.le_trans
abbrev ga:=@Nat.zero_mul
abbrev pT.{u}:=@List.take_append_of_le_length.{u}
abbrev fT:=@Int.le_refl
abbrev mS.{u}:=@List.length_singleton.{u}
abbrev lj.{u}:=@List.all_eq_false.{u}
abbrev l2:=@Nat.lt_of_lt_of_le
abbrev rn.{u}:=@Array.getD_eq_getD_getElem?.{u}
abbrev mT.{u,v}:=@List.flatMap_append.{u,v}
abbrev kP.{u}:=@List.append_nil.{u}
abbrev oR.{u}:=@List.mem_append_right.{u}
abbrev oS.{u}:=@List.set_append_right.{u}
abbrev kg:=@Bool.and_false
abbrev oT.{u}:=@List.mem_append_left.{u}
abbrev nN.{u}:=@List.mem_singleton.{u}
abbrev pW.{u}:=@Array.getElem?_toList.{u}
abbrev oU.{u}:=@Array.length_toList.{u}
abbrev rp.{u}:=@List.take_append_drop.{u}
abbrev pX.{u}:=@List.drop_set_of_lt.{u}
abbrev l3:=@Bool.and_assoc
abbrev tt.{u}:=@List.getElem?_replicate.{u}
abbrev pY.{u}:=@List.filter_append.{u}
abbrev vU.{u}:=@List.mem_or_eq_of_mem_set.{u}
abbrev nO:=@List.range_succ
abbrev mU.{u}:=@List.drop_zero.{u}
abbrev oV:=@Nat.lt_succ_self
abbrev oW:=@Bool.and_eq_true
abbrev tu.{u}:=@List.length_filter_le.{u}
abbrev nP:=@Nat.mul_le_mul
abbrev rq.{u}:=@List.pairwise_cons.{u}
abbrev pZ.{u}:=@List.drop_length.{u}
abbrev vP.{u}:=@List.length_eq_one_iff.{u}
abbrev oQ:=@Int.mul_nonneg
abbrev vQ:=@Nat.div_lt_iff_lt_mul
abbrev ri.{u}:=@List.length_cons.{u}
abbrev Dv.{u}:=@List.mem_zipIdx_iff_getElem?.{u}
abbrev nM:=@Nat.sub_self
abbrev pU:=@List.mem_range
abbrev rj:=@Nat.not_lt_zero
abbrev rk.{u}:=@List.nil_append.{u}
abbrev tq.{u,v}:=@List.mem_flatMap.{u,v}
abbrev pV:=@Nat.add_assoc
abbrev vR.{u}:=@List.mem_replicate.{u}
abbrev JD.{u}:=@List.findIdx?_eq_some_iff_getElem.{u}
abbrev Dw.{u}:=@List.exists_mem_of_ne_nil.{u}
abbrev rl:=@Int.mul_le_mul
abbrev tr:=@Nat.min_eq_left
abbrev ts.{u}:=@List.any_append.{u}
abbrev JE.{u}:=@Array.eq_empty_of_size_eq_zero.{u}
abbrev y2:=@Int.toNat_of_nonneg
abbrev y3.{u,v,w}:=@List.length_zipWith.{u,v,w}
abbrev vS.{u,v}:=@Array.toList_map.{u,v}
abbrev vT:=@Nat.lt_of_not_le
abbrev JF.{u}:=@List.drop_append_of_le_length.{u}
abbrev Dx.{u}:=@List.drop_of_length_le.{u}
abbrev y4.{u}:=@List.set_cons_zero.{u}
abbrev rm:=@Nat.add_zero
abbrev Dy.{u}:=@List.getElem?_eq_none.{u}
abbrev Dz.{u}:=@List.length_replicate.{u}
abbrev tv.{u,v}:=@List.map_take.{u,v}
abbrev y5.{u,v}:=@List.flatMap_cons.{u,v}
abbrev lk.{u}:=@Ne.symm.{u}
inductive T where
  |bool (b:Bool)
  |int (k:IntKind) (n:Int)
  |str (s:List UInt8)
  |aA (rows:List (List T))
  |fe
  |gV
  |gw
  |nB
  |err
  deriving Inhabited
inductive V where
  |t (x:T)
  |agg (cs:List V)
  |bH (vs:List V)
  |ref (id off:Nat)
  |aL (cells:List T)
  |a8 (id gen size off len:Nat)
  |cw (id gen size i off:Nat)
  |fn (f:FuncId) (ahj:List V)
  |cY
  deriving Inhabited
structure dN where
  ty:TypeId
  size:Nat
  bm:List (Nat×Nat)
def tY:List (Nat×Nat)->Nat->Option Nat
  | [],_=>none
  |p::l,j=>bif Nat.beq p.1 j then some p.2 else tY l j
def dN.en(d:dN)(j:Nat):Option Nat:=tY d.bm j
def ags:dN:=⟨0,0,[]⟩
def U(a:List dN)(m:Nat):dN:=a.getD m ags
inductive E where
  |cells (cs:List V)
  |arr (ty:TypeId) (gen size:Nat) (rows:List (List T))
  |a7 (fV:List dN) (m gen:Nat) (rows:List (List T)) (open_:List (Nat×Nat×V))
structure Map where
  f:Nat->Option (Option Nat×Nat)
  n:Nat->Nat->Prop
instance:CoeFun Map (λ_=>Nat->Option (Option Nat×Nat)):=⟨Map.f⟩
def At(a:Map)(c b:Nat):Prop:=(∃g,a c=some (some b,g))\/a.n c b
def di(e a:Map):Prop:= ∀id q g,e id=some (q,g)->a id=some (q,g)\/(1<=g/\ ∃h c,a id=some (h,c)/\g<c)
theorem di.refl(β:Map):di β β:=λ_ _ _ h=> .inl h
variable {β G β':Map}{W:List dN}{e:E}
theorem di.of(h: ∀id x,β id=some x->G id=some x):di β G:=λ_ _ _ a=> .inl (h _ _ a)
structure Ext (X:Nat->Prop) (w w':World):Prop where
  os:w'.os=w.os
  tape:w'.tape=w.tape
  output:w'.output=w.output
  size:w.heap.size<=w'.heap.size
  keep: ∀b,b<w.heap.size-> ¬X b->w'.heap[b]? =w.heap[b]?
theorem Ext.refl(X:Nat->Prop)(w:World):Ext X w w:=⟨rfl,rfl,rfl,cJ _,λ_ _ _=>rfl⟩
theorem Ext.trans(h:Ext X a b)(k:Ext X b c):Ext X a c:=
  ⟨k.os.trans h.os,k.tape.trans h.tape,k.output.trans h.output,f' h.size k.size,
   λi e l=>(k.keep i (l2 e h.size) l).trans (h.keep i e l)⟩
theorem Ext.trans'(h:Ext X a b)(k:Ext (λi=> ¬(i<a.heap.size/\ ¬X i)) b c):Ext X a c:=
  ⟨k.os.trans h.os,k.tape.trans h.tape,k.output.trans h.output,f' h.size k.size,
   λi e l=>(k.keep i (l2 e h.size) λm=>m ⟨e,l⟩).trans (h.keep i e l)⟩
theorem Ext.weaken(h:Ext X a b)(e: ∀i,i<a.heap.size->X i->A i):Ext A a b:=
  ⟨h.os,h.tape,h.output,h.size,λi c k=>h.keep i c λl=>k (e i c l)⟩
theorem Ext.drew(X:Nat->Prop)(w:World):Ext X w w.drew:=⟨rfl,rfl,rfl,cJ _,λ_ _ _=>rfl⟩
theorem heap_alloc(w:World)(o:Obj)(k:Nat)(h:k<w.heap.size):(w.alloc o).heap[k]? =w.heap[k]? :=by
  show(w.heap.push o)[k]? =_
  grind
theorem jA(w:World)(o:Obj):(w.alloc o).heap[w.heap.size]? =some o:=by show(w.heap.push o)[w.heap.size]? =_;simp
theorem Ext.alloc(X:Nat->Prop)(w:World)(o:Obj):Ext X w (w.alloc o):=
  ⟨rfl,rfl,rfl,aP,λk a _=>heap_alloc _ _ _ a⟩
theorem yo{b:Nat}(h:a.heap[b]? =w.heap[b]?):a.shape? b=w.shape? b:=by unfold World.shape?;rw[h]
def Shaped(_β:Map)(w a:World):Prop:= ∀b,b<w.heap.size->a.shape? b=w.shape? b
theorem Shaped.refl(β:Map)(w:World):Shaped β w w:=λ_ _=>rfl
theorem qA(e:Ext (λ_=>False) w w'):Shaped G w w':=λb a=>yo (e.keep b a λh=>h)
theorem Vd(w:World)(a:Addr)(u:Value)(k:Nat)(h:k≠a.block):(w.setCell a u).heap[k]? =w.heap[k]? :=by
  simp only[World.setCell,Array.getElem?_modify]
  grind
theorem Ext.setCell(w:World)(a:Addr)(u:Value)(h:X a.block):Ext X w (w.setCell a u):=
  ⟨rfl,rfl,rfl,aP,λk _ c=>Vd _ _ _ _ λe=>c (e▸h)⟩
theorem Dp{a:Addr}(h:b.heap[a.block]? =w.heap[a.block]?):b.cell? a=w.cell? a:=by unfold World.cell?;rw[h]
inductive cP (w:World) (X:Nat->Prop):T->Value->Prop where
  |bool (b:Bool):cP w X (.bool b) (.bool b)
  |int (k:IntKind) (n:Int):cP w X (.int k n) (.int k n)
  |str (l:List UInt8):cP w X (.str l) (.string ⟨l.toArray⟩)
  |fI (a:Option Addr) (cap:Nat):cP w X (.aA []) (.slice a 0 cap)
  |aA (rows:List (List T)) (b off size cap:Nat) (f:Nat->Nat->Value) (aY:b<w.heap.size) (gp: ¬X b) (H9:rows.length<=cap)
      (k3: ∀row,row∈rows->row.length=size)
      (bG: ∀i j,i<rows.length->j<size->w.cell? ⟨b,off+i*size+j,none⟩=some (f i j))
      (bR: ∀(i j:Nat) (row:List T) (x:T),rows[i]? =some row->row[j]? =some x->cP w X x (f i j)):
      cP w X (.aA rows) (.slice (some ⟨b,off,none⟩) rows.length cap)
  |fe:cP w X .fe (.slice none 0 0)
  |gV:cP w X .gV (.pointer none)
  |gw:cP w X .gw .nilIface
  |nB:cP w X .nB .nilFunc
  |err (t:TypeId) (v:Value):cP w X .err (.iface t v)
theorem cP.mono{x:T}(h:cP w X x v)(e:Ext X w w')(B: ∀b,b<w.heap.size->A b->X b):cP w' A x v:=by
  induction h with
  |bool b=>exact .bool b
  |int k n=>exact .int k n
  |str l=>exact .str l
  |fI a c=>exact .fI a c
  |aA m b r o c f s p q y C _ F=>
    exact .aA m b r o c f (l2 s e.size) (λh=>p (B b s h)) q y
      (λi j G K=>by rw[Dp (w:=w) (e.keep b s p)];exact C i j G K) (λi j z x L Q=>F i j z x L Q)
  |fe=>exact .fe
  |gV=>exact .gV
  |gw=>exact .gw
  |nB=>exact .nB
  |err t v=>exact .err t v
inductive bk (β:Map) (w:World) (X:Nat->Prop):V->Value->Prop where
  |t (x:T) (v:Value):cP w X x v->bk β w X (.t x) v
  |agg (cs:List V) (us:Array Value) (b8:us.size=cs.length) (h: ∀(i:Nat) c u,cs[i]? =some c->us[i]? =some u->bk β w X c u):bk β w X (.agg cs) (.agg us)
  |bH (cs:List V) (us:Array Value) (b8:us.size=cs.length) (h: ∀(i:Nat) c u,cs[i]? =some c->us[i]? =some u->bk β w X c u):bk β w X (.bH cs) (.tuple us)
  |ref (id off b:Nat) (aY:β id=some (some b,0)):bk β w X (.ref id off) (.pointer (some ⟨b,off,none⟩))
  |aL (cells:List T) (b off:Nat) (f:Nat->Value) (aY:b<w.heap.size) (gp: ¬X b)
      (bG: ∀j,j<cells.length->w.cell? ⟨b,off+j,none⟩=some (f j))
      (bR: ∀(j:Nat) (x:T),cells[j]? =some x->cP w X x (f j)):bk β w X (.aL cells) (.pointer (some ⟨b,off,none⟩))
  |a8 (id gen size off len cap b n:Nat) (ty:TypeId) (bI:1<=gen) (aY:β id=some (some b,gen)) (hw:b<w.heap.size) (hs:w.shape? b=some (ty,n)) (cy:(off+cap)*size=n) (b8:len<=cap) (hm:cap<=maxLen):
      bk β w X (.a8 id gen size off len) (.slice (some ⟨b,off*size,none⟩) len cap)
  |hi (id gen size:Nat) (bI:1<=gen) (aY:β id=some (none,gen)):bk β w X (.a8 id gen size 0 0) (.slice none 0 0)
  |k7 (id gen size off len:Nat) (v:Value) (q:Option Nat) (g:Nat) (ec:v.oneCell'=true) (aY:β id=some (q,g)) (bI:gen<g):bk β w X (.a8 id gen size off len) v
  |cw (id gen size i off b:Nat) (bI:1<=gen) (aY:β id=some (some b,gen)):bk β w X (.cw id gen size i off) (.pointer (some ⟨b,i*size+off,none⟩))
  |lD (id gen size i off:Nat) (v:Value) (q:Option Nat) (g:Nat) (ec:v.oneCell'=true) (aY:β id=some (q,g)) (bI:gen<g):bk β w X (.cw id gen size i off) v
  |fn (f:FuncId) (cs:List V) (us:Array Value) (b8:us.size=cs.length) (h: ∀(i:Nat) c u,cs[i]? =some c->us[i]? =some u->bk β w X c u):
      bk β w X (.fn f cs) (.func (.func f) #[] us)
  |cY (v:Value):bk β w X .cY v
theorem bk.mono{x:V}(h:bk β w X x v)(e:Ext X w w')(G: ∀b,b<w.heap.size->A b->X b)
    (m:di β β') (K:Shaped β w w'):bk β' w' A x v:=by
  induction h with
  |t x v h=>exact .t x v (h.mono e G)
  |agg cs z y _ B=>exact .agg cs z y B
  |bH cs z y _ B=>exact .bH cs z y B
  |ref id c b k=>
    rcases m _ _ _ k with h|⟨h,_⟩
    · exact .ref id c b h
    · omega
  |aL cells b c f k C R W=>
    exact .aL cells b c f (l2 k e.size) (λh=>C (G b k h)) (λj u=>by rw[Dp (w:=w) (e.keep b k C)];exact R j u)
      (λj x h=>(W j x h).mono e G)
  |a8 id gen a c o L b n ty p k Q D I y M=>
    rcases m _ _ _ k with h|⟨_,r,s,h,l⟩
    · exact .a8 id gen a c o L b n ty p h (l2 Q e.size) (by rw[K b Q];exact D) I y M
    · exact .k7 id gen a c o _ r s rfl h l
  |hi id gen a p k=>
    rcases m _ _ _ k with h|⟨_,r,s,h,l⟩
    · exact .hi id gen a p h
    · exact .k7 id gen a 0 0 _ r s rfl h l
  |k7 id gen a c o v q g F k p=>
    rcases m _ _ _ k with h|⟨_,r,s,h,l⟩
    · exact .k7 id gen a c o v q g F h p
    · exact .k7 id gen a c o v r s F h O
  |cw id gen a i c b p k=>
    rcases m _ _ _ k with h|⟨_,r,s,h,l⟩
    · exact .cw id gen a i c b p h
    · exact .lD id gen a i c _ r s rfl h l
  |lD id gen a i c v q g F k p=>
    rcases m _ _ _ k with h|⟨_,r,s,h,l⟩
    · exact .lD id gen a i c v q g F h p
    · exact .lD id gen a i c v r s F h O
  |fn f cs z y _ B=>exact .fn f cs z y B
  |cY v=>exact .cY v
inductive gA (fV:List dN) (w:World) (X:Nat->Prop):Option Nat->T->Value->(Nat->Prop)->Prop where
  |jh (x:T) (v:Value) (N:Nat->Prop) (h:cP w X x v) (eu: ∀c,¬N c):gA fV w X none x v N
  |nil (m:Nat) (N:Nat->Prop) (eu: ∀c,¬N c):gA fV w X (some m) (.aA []) (.slice none 0 0) N
  |own (m:Nat) (rows:List (List T)) (b cap:Nat) (us:Array Value) (B:Nat->Nat->Nat->Prop) (N:Nat->Prop)
      (hw:w.heap[b]? =some (.cells us (U fV m).ty (0,0))) (hs:us.size=cap*(U fV m).size) (hm:cap<=maxLen) (b8:rows.length<=cap)
      (k3: ∀row,row∈rows->row.length=(U fV m).size)
      (bR: ∀(i j:Nat) (row:List T) (x:T) (u:Value),rows[i]? =some row->row[j]? =some x->us[i*(U fV m).size+j]? =some u->gA fV w X ((U fV m).en j) x u (B i j))
      (dm: ∀i j c,B i j c->i<rows.length/\j<(U fV m).size/\c≠b)
      (cu: ∀i j iM cT c,B i j c->B iM cT c->i=iM/\j=cT)
      (eu: ∀c,N c↔c=b\/ ∃i j,B i j c):
      gA fV w X (some m) (.aA rows) (.slice (some ⟨b,0,none⟩) rows.length cap) N
theorem gA.mono{x:T}{N:Nat->Prop}(h:gA W w X m x v N)(e:Ext X w w')(r: ∀b,b<w.heap.size->A b->X b)
    (q: ∀b,N b->w'.heap[b]? =w.heap[b]?):gA W w' A m x v N:=by
  induction h with
  |jh x v N h a=>exact .jh x v N (h.mono e r) a
  |nil m N a=>exact .nil m N a
  |own m k b n s B N y l z C o t F G a K=>
    refine .own m k b n s B N ?_ l z C o (λi j p x u L Q R=>K i j p x u L Q R λc f=>q c ((a c).2 (.inr ⟨i,j,f⟩))) F G a;rw[q b ((a b).2 (.inl rfl))];exact y
theorem gA.iff{x:T}{N:Nat->Prop}(h:gA W w X m x v N)(a: ∀c,A c↔N c):gA W w X m x v A:=by
  cases h with
  |jh _ _ _ h e=>exact .jh _ _ _ h (λc k=>e c ((a c).1 k))
  |nil _ _ e=>exact .nil _ _ (λc k=>e c ((a c).1 k))
  |own m i b l o B _ p q r s n y z C e=>exact .own m i b l o B _ p q r s n y z C λc=>(a c).trans (e c)
theorem gA.lt{x:T}{N:Nat->Prop}(h:gA W w X m x v N): ∀c,N c->c<w.heap.size:=by
  induction h with
  |jh _ _ _ _ a=>exact λc e=>bz e (a c)
  |nil _ _ a=>exact λc e=>bz e (a c)
  |own m k b l q B N r s C F n G y K a z=>
    intro c e;rcases(a c).1 e with rfl|⟨i,j,o⟩
    · exact(js.1 r).1
    · obtain⟨p,L,_⟩:=y i j c o;have Q:=n _ (fJ p);have A:i*(U W m).size+j<q.size:=by
        rw[s]
        have:(i+1)*(U W m).size<=l*(U W m).size:=dx _ O;rw[dG] at this;omega
      exact z i j _ (k[i][j]' O) _ (bo p) (bo O) (hr A) c o
theorem gA.yP{x:T}{N:Nat->Prop}(h:gA W w X m x v N)(C: ∀b,A b->X b)(l: ∀b,N b-> ¬A b):cP w A x v:=by
  induction h with
  |jh x v N h q=>exact h.mono (Ext.refl _ _) (λb _=>C b)
  |nil m N q=>exact .fI _ _
  |own m n b e k B N s y R F o f t u q G=>
    refine .aA n b 0 (U W m).size e (λi j=>k.getD (i*(U W m).size+j) undef) (js.1 s).1 (l b ((q b).2 (.inl rfl))) F o (λi j aE K=>?_) λi j p x r z=>?_
    · have a:i*(U W m).size+j<k.size:=by
        rw[y]
        have:(i+1)*(U W m).size<=e*(U W m).size:=dx _ O;rw[dG] at this;omega
      simp[World.cell?,s,a]
    · have aE:=(bU.1 r).1;have K:j<(U W m).size:=by rw[<-o p (bE r)];exact(bU.1 z).1
      have a:i*(U W m).size+j<k.size:=by
        rw[y]
        have:(i+1)*(U W m).size<=e*(U W m).size:=dx _ O;rw[dG] at this;omega
      have L:k.getD (i*(U W m).size+j) undef=k[i*(U W m).size+j]:=by simp[a]
      show cP w A x (k.getD (i*(U W m).size+j) undef);rw[L];exact G i j p x _ r z (hr a) λc Q=>l c ((q c).2 (.inr ⟨i,j,Q⟩))
def Cell(a:List dN)(m:Nat)(e:List (Nat×Nat×V))(β:Map)(w:World)(X:Nat->Prop)(i j:Nat)(x:T)(u:Value)(N:Nat->Prop):Prop:=
  (∀v,(i,j,v)∈e->bk β w X v u/\ ∀c,¬N c)/\((∀v,(i,j,v)∉e)->gA a w X ((U a m).en j) x u N)
theorem Cell.mono{m:Nat}{D:List (Nat×Nat×V)}{x:T}{N:Nat->Prop}(h:Cell W m D β w X i j x u N)
    (e:Ext X w w') (l: ∀b,b<w.heap.size->A b->X b) (a:di β β') (c:Shaped β w w') (k: ∀b,N b->w'.heap[b]? =w.heap[b]?):Cell W m D β' w' A i j x u N:=
  ⟨λv n=>⟨(h.1 v n).1.mono e l a c,(h.1 v n).2⟩,λo=>(h.2 o).mono e l k⟩
theorem Cell.none{m:Nat}{x:T}{N:Nat->Prop}(h:Cell W m [] β w X i j x u N):gA W w X ((U W m).en j) x u N:=h.2 λ_ a=>List.not_mem_nil a
theorem Cell.of{m:Nat}{x:T}{N:Nat->Prop}(h:gA W w X ((U W m).en j) x u N):Cell W m [] β w X i j x u N:=⟨λ_ a=>bz a List.not_mem_nil,λ_=>h⟩
def cC(β:Map)(w:World)(X:Nat->Prop)(l:Nat):E->Prop
  | .cells cs=> ∃(b:Nat) (h:Array Value) (ty:TypeId),β l=some (some b,0)/\w.heap[b]? =some (.cells h ty (0,0))/\h.size=cs.length/\
      ∀(i:Nat) c u,cs[i]? =some c->h[i]? =some u->bk β w X c u
  | .arr ty gen k a=>1<=gen/\((β l=some (none,gen)/\a=[])\/ ∃(b:Nat) (h:Array Value),β l=some (some b,gen)/\w.heap[b]? =some (.cells h ty (0,0))/\
      a.length*k<=h.size/\(∀e,e∈a->e.length=k)/\
      ∀(i j:Nat) (e:List T) (x:T) (u:Value),a[i]? =some e->e[j]? =some x->h[i*k+j]? =some u->cP w X x u)
  | .a7 o m gen a r=>1<=gen/\((β l=some (none,gen)/\a=[]/\(∀c,¬β.n l c))\/ ∃(b:Nat) (h:Array Value) (B:Nat->Nat->Nat->Prop),β l=some (some b,gen)/\
      w.heap[b]? =some (.cells h (U o m).ty (0,0))/\a.length*(U o m).size<=h.size/\(∀e,e∈a->e.length=(U o m).size)/\
      (∀(i j:Nat) (e:List T) (x:T) (u:Value),a[i]? =some e->e[j]? =some x->h[i*(U o m).size+j]? =some u->Cell o m r β w X i j x u (B i j))/\
      (∀i j c,B i j c->i<a.length/\j<(U o m).size/\c≠b)/\(∀i j p q c,B i j c->B p q c->i=p/\j=q)/\ ∀c,β.n l c↔ ∃i j,B i j c)
theorem cC.mono{I:E}(h:cC β w X k I)(e:Ext X w w')(K: ∀b,b<w.heap.size->A b->X b)
    (r:di β β') (o: ∀x,β k=some x->β' k=some x) (s:Shaped β w w') (a: ∀b,At β k b->w'.heap[b]? =w.heap[b]?) (Q: ∀b,β'.n k b↔β.n k b:=by exact λ_=>Iff.rfl):cC β' w' A k I:=by
  cases I with
  |cells cs=>
    obtain⟨b,y,ty,l,p,z,C⟩:=h;exact⟨b,y,ty,o _ l,by rw[a b (.inl ⟨_,l⟩)];exact p,z,λi c u F f=>(C i c u F f).mono e K r s⟩
  |arr ty gen R G=>
    refine⟨h.1,?_⟩;rcases h.2 with ⟨l,p⟩|⟨b,y,l,p,z,C,L⟩
    · exact .inl ⟨o _ l,p⟩
    · exact .inr ⟨b,y,o _ l,by rw[a b (.inl ⟨_,l⟩)];exact p,z,C,λi j q x u aI a2 a3=>(L i j q x u aI a2 a3).mono e K⟩
  |a7 M m gen G N=>
    refine⟨h.1,?_⟩;rcases h.2 with ⟨l,p,t⟩|⟨b,y,B,l,p,z,C,L,v,D,W⟩
    · exact .inl ⟨o _ l,p,λc F=>t c ((Q c).1 F)⟩
    · refine .inr ⟨b,y,B,o _ l,by rw[a b (.inl ⟨_,l⟩)];exact p,z,C,λi j q x u aI a2 a3=>(L i j q x u aI a2 a3).mono e K r s λc F=>a c (.inr ((W c).2 ⟨i,j,F⟩)),v,D,λc=>(Q c).trans (W c)⟩
def Map.put(a:Map)(d:Nat)(x:Option (Option Nat×Nat)):Map:=⟨λi=>bif Nat.beq i d then x else a i,a.n⟩
theorem jf(a:Map)(d:Nat)(x:Option (Option Nat×Nat)):a.put d x d=x:=by simp[Map.put]
theorem ep(a:Map)(d i:Nat)(x:Option (Option Nat×Nat))(h:i≠d):a.put d x i=a i:=by
  have:Nat.beq i d=false:=by cases c:Nat.beq i d with
    |false=>rfl
    |true=>exact bz (cL c) h
  simp[Map.put,this]
def aS{a:Type}(f:Nat->a)(d:Nat)(v:a):Nat->a:=λi=>bif Nat.beq i d then v else f i
theorem bP{a:Type}(f:Nat->a)(d:Nat)(v:a):aS f d v d=v:=by simp[aS]
theorem bQ{a:Type}(f:Nat->a)(d i:Nat)(v:a)(h:i≠d):aS f d v i=f i:=by
  have:Nat.beq i d=false:=by cases c:Nat.beq i d with
    |false=>rfl
    |true=>exact bz (cL c) h
  simp[aS,this]
structure S where
  t:Nat->V
  H:Nat->Option E
  u:Nat->Bool
structure eY where
  yt:Nat
  W:World
def eY.ok(G:eY)(w:World):Prop:=G.yt<=w.heap.size/\ ∀b,b<G.yt->w.heap[b]? =G.W.heap[b]?
structure Ctx where
  P:Program
  G:eY
  w0:World
  X:Nat->Prop
  c6:Nat
  fW:Map
  nt:Nat
def Ctx.M(K:Ctx)(b:Nat):Prop:= ∃id,id<K.c6/\At K.fW id b
def own(K:Ctx)(β:Map)(H:Nat->Option E)(b:Nat):Prop:=K.X b\/ ∃id,H id≠none/\At β id b
def kh(n:Nat)(a c:Map)(i:Nat):Prop:= ∀id,id<n->(c id=a id)\/ ∃q g e h,a id=some (q,g)/\1<=g/\c id=some (e,h)/\g<h/\ ∀b,e=some b->q=some b\/i<=b
theorem kh.refl(n:Nat)(β:Map)(sz:Nat):kh n β β sz:=λ_ _=> .inl rfl
theorem kh.keep{T S:Map}(h:kh n G T sz)(a: ∀id,id<n->S id=T id):kh n G S sz:=λid hid=>by rw[a id hid];exact h id hid
theorem kh.more{S T:Map}(h:kh n S T sz)(l: ∀id,id<n->(G id=T id)\/ ∃q g a i,T id=some (q,g)/\1<=g/\G id=some (a,i)/\g<i/\ ∀b,a=some b->q=some b\/sz<=b):kh n S G sz:=by
  intro id hid;rcases l id hid with e|⟨q,g,a,i,aI,a2,a3,a4,a5⟩
  · rw[e];exact h id hid
  · rcases h id hid with e|⟨m,o,x,y,p,r,k,z,s⟩
    · exact .inr ⟨q,g,a,i,by rw[<-e];exact aI,a2,a3,a4,a5⟩
    · rw[aI] at k;cases k;exact .inr ⟨m,o,a,i,p,r,a3,O,λb w=>by
        rcases a5 b w with c|c
        · exact s b c
        · exact .inr c⟩
theorem kh.grow{S T:Map}(h:kh n S T sz)(k gen:Nat)(q c:Option Nat)(l:T k=some (q,gen))(r:1<=gen)(m:G k=some (c,gen+1))(a: ∀b,c=some b->q=some b\/sz<=b)
    (s: ∀id,id≠k->G id=T id):kh n S G sz:=by
  intro id hid;by_cases o:id=k
  · subst o;rcases h id hid with e|⟨w,x,B,C,e,y,p,F,z⟩
    · exact .inr ⟨q,gen,c,gen+1,by rw[<-e];exact l,r,m,oV _,a⟩
    · rw[l] at p;cases p;exact .inr ⟨w,x,c,gen+1,e,y,m,O,λb A=>by
        rcases a b A with i|i
        · exact z b i
        · exact .inr i⟩
  · rw[s id o];exact h id hid
theorem Shaped.ext(h:Shaped G a w)(c:a.heap.size<=w.heap.size)(e:Ext (λ_=>False) w w'):Shaped G a w':=
  λb i=>(yo (e.keep b (l2 i c) λh=>h)).trans (h b i)
structure Rel (K:Ctx) (β:Map) (s:S) (a:Act) (w:World):Prop where
  ext:Ext K.M K.w0 w
  ot:K.G.ok K.w0
  oC: ∀b,K.M b->K.G.yt<=b
  iz: ∀b,K.X b->b<K.w0.heap.size/\ ¬K.M b
  base:kh K.c6 K.fW β K.w0.heap.size
  iT:Shaped K.fW K.w0 w
  low: ∀id,id<K.c6->s.u id=true
  dF: ∀id,s.u id=false->β id=none
  ea: ∀id b,s.u id=false-> ¬β.n id b
  qL: ∀id j4 b,At K.fW id b->At K.fW j4 b->id=j4
  inj: ∀id j4 b,At β id b->At β j4 b->id=j4
  fresh: ∀id b,At β id b->(K.M b\/K.w0.heap.size<=b)/\b<w.heap.size
  heap: ∀id e,s.H id=some e->s.u id=true/\cC β w (own K β s.H) id e
  cW: ∀i,bk β w (own K β s.H) (s.t i) (a.tmps.getD i undef)
  nt:a.tmps.size=K.nt
  defers:a.defers=[]
theorem WA{G:eY}(h:G.ok w)(e:Ext X w w')(c: ∀b,X b->G.yt<=b):G.ok w':=
  ⟨f' h.1 e.size,λb a=>(e.keep b (l2 a h.1) λi=>by have:=c b i;omega).trans (h.2 b a)⟩
variable {K:Ctx}
theorem Rel.B5{s:S}{a:Act}(h:Rel K β s a w):K.G.ok w:=WA h.ot h.ext h.oC
mutual
def V.ok(u:Nat->Bool):V->Bool
  | .ref id _=>u id
  | .a8 id _ _ _ _=>u id
  | .cw id _ _ _ _=>u id
  | .agg cs=>gv u cs
  | .bH cs=>gv u cs
  | .fn _ cs=>gv u cs
  | .t _=>true
  | .aL _=>true
  | .cY=>true
def gv(u:Nat->Bool):List V->Bool
  | []=>true
  |c::cs=>V.ok u c&&gv u cs
end
theorem vO{u:Nat->Bool}: ∀{cs:List V} {i:Nat} {c:V},gv u cs=true->cs[i]? =some c->V.ok u c=true
  | [],_,_,_,h=>by simp at h
  |c::cs,0,_,h,a=>by simp at a;subst a;simp[gv] at h;exact h.1
  |c::cs,i+1,_,h,a=>by simp at a;simp[gv] at h;exact vO h.2 a
theorem bk.under{u:Nat->Bool}{x:V}(h:bk β w X x v)(C: ∀b,A b->X b)
    (l: ∀id,u id=true->β' id=β id) (p:x.ok u=true):bk β' w A x v:=by
  induction h with
  |t x v h=>exact .t x v (h.mono (Ext.refl _ _) λb _=>C b)
  |agg cs y k _ z=>exact .agg cs y k (λi c u o B=>z i c u o B (vO (by simpa[V.ok] using p) o))
  |bH cs y k _ z=>exact .bH cs y k (λi c u o B=>z i c u o B (vO (by simpa[V.ok] using p) o))
  |ref id e b n=>exact .ref id e b (by rw[l id (by simpa[V.ok] using p)];exact n)
  |aL cells b e f n F o L=>exact .aL cells b e f n (λh=>F (C _ h)) o (λj x h=>(L j x h).mono (Ext.refl _ _) λb _=>C b)
  |a8 id gen a e s G b m ty r n Q R W k D=>exact .a8 id gen a e s G b m ty r (by rw[l id (by simpa[V.ok] using p)];exact n) Q R W k D
  |hi id gen a r n=>exact .hi id gen a r (by rw[l id (by simpa[V.ok] using p)];exact n)
  |k7 id gen a e s v q g K n r=>exact .k7 id gen a e s v q g K (by rw[l id (by simpa[V.ok] using p)];exact n) r
  |cw id gen a i e b r n=>exact .cw id gen a i e b r (by rw[l id (by simpa[V.ok] using p)];exact n)
  |lD id gen a i e v q g K n r=>exact .lD id gen a i e v q g K (by rw[l id (by simpa[V.ok] using p)];exact n) r
  |fn f cs y k _ z=>exact .fn f cs y k (λi c u o B=>z i c u o B (vO (by simpa[V.ok] using p) o))
  |cY v=>exact .cY v
def ur(u:Nat->Bool):List (Nat×Nat×V)->Bool
  | []=>true
  |h::a=>h.2.2.ok u&&ur u a
theorem FI{u:Nat->Bool}: ∀{a:List (Nat×Nat×V)} {i j:Nat} {v:V},ur u a=true->(i,j,v)∈a->v.ok u=true
  | [],_,_,_,_,h=>by cases h
  |h::a,i,j,v,c,hm=>by
    simp only[ur,Bool.and_eq_true] at c;rcases dL.1 hm with rfl|hm
    · exact c.1
    · exact FI c.2 hm
def E.ok(u:Nat->Bool):E->Bool
  | .cells cs=>gv u cs
  | .arr _ _ _ _=>true
  | .a7 _ _ _ _ a=>ur u a
def S.le(K:Ctx)(s s':S):Prop:= ∀β a w,Rel K β s a w-> ∃c,Rel K c s' a w
theorem S.le.refl(K:Ctx)(s:S):s.le K s:=λβ _ _ h=>⟨β,h⟩
theorem S.le.trans{a b c:S}(h:a.le K b)(k:b.le K c):a.le K c:=λβ x w i=>let ⟨e,l⟩:=h β x w i;k e x w l
def dv(v c:V):Prop:= ∀a w X u,bk a w X v u->bk a w X c u
theorem dv.refl(v:V):dv v v:=λ_ _ _ _ h=>h
theorem dv.of_eq{v c9:V}(h:v=c9):dv v c9:=h▸dv.refl v
theorem dv.nil:dv (.t .fe) (.t (.aA [])):=by intro β w X u h;cases h with|t _ _ h=>cases h;exact .t _ _ (.fI _ _)
theorem dv.cY(v:V):dv v .cY:=λ_ _ _ _ _=> .cY _
theorem dv.trans{a b c:V}(h:dv a b)(k:dv b c):dv a c:=λe w X u i=>k e w X u (h e w X u i)
def fh:List V->List V->Prop
  | [],[]=>True
  |v::c,e::a=>dv v e/\fh c a
  |_,_=>False
theorem fh.refl: ∀a:List V,fh a a
  | []=>trivial
  |v::a=>⟨dv.refl v,fh.refl a⟩
theorem fh.get: ∀{c a:List V},fh c a->c.length=a.length/\ ∀(i:Nat) e,a[i]? =some e-> ∃v,c[i]? =some v/\dv v e
  | [],[],_=>⟨rfl,λi e h=>by simp at h⟩
  |v::c,e::a,h=>by
    obtain⟨l,m⟩:=fh.get h.2;refine⟨by simp[l],λi x k=>?_⟩;cases i with
    |zero=>simp at k;subst k;exact⟨v,rfl,h.1⟩
    |succ i=>simp at k;exact m i x k
  | [],_::_,h=>h.elim
  |_::_,[],h=>h.elim
theorem dv.agg{Y U:List V}(h:fh Y U):dv (.agg Y) (.agg U):=by
  intro q w X u a;obtain⟨r,e⟩:=h.get;cases a with
  |agg _ k s l=>exact .agg _ k O λi c u m n=>by obtain⟨v,o,p⟩:=e i c m;exact p _ _ _ _ (l i v u o n)
theorem dv.bH{Y U:List V}(h:fh Y U):dv (.bH Y) (.bH U):=by
  intro q w X u a;obtain⟨r,e⟩:=h.get;cases a with
  |bH _ k s l=>exact .bH _ k O λi c u m n=>by obtain⟨v,o,p⟩:=e i c m;exact p _ _ _ _ (l i v u o n)
def ju(e a:E):Prop:=match e,a with
  | .cells cs,.cells c=>fh cs c
  |e,a=>e=a
theorem ju.refl(e:E):ju e e:=by cases e with
  |cells cs=>exact fh.refl cs
  |arr=>rfl
  |a7=>rfl
theorem ju.vB{e':E}(h:ju e e')(k:cC G w X n e):cC G w X n e':=by
  cases e with
  |cells cs=>
    cases e' with
    |cells o=>
      obtain⟨C,p⟩:=fh.get h;obtain⟨b,q,ty,r,s,F,x⟩:=k;exact⟨b,q,ty,r,s,O,λi c u y z=>by obtain⟨v,A,B⟩:=p i c y;exact B _ _ _ _ (x i v u A z)⟩
    |arr=>cases h
    |a7=>cases h
  |arr ty gen l a=>
    cases e' with
    |cells=>cases h
    |arr=>cases h;exact k
    |a7=>cases h
  |a7 K m gen a L=>
    cases e' with
    |cells=>cases h
    |arr=>cases h
    |a7=>cases h;exact k
def o6(t:Nat->V)(u:Nat->Bool)(a:Nat->V):Prop:= ∀i,a i= .cY\/(dv (t i) (a i)/\(a i).ok u=true)
def lv(H:Nat->Option E)(u:Nat->Bool)(c:Nat->Option E):Prop:= ∀id e,c id=some e->(∃a,H id=some a/\ju a e)/\u id=true/\e.ok u=true
def tL(u a:Nat->Bool):Prop:= ∀id,a id=true->u id=true
def mH:Nat->(Nat->Bool)->Bool
  |0,_=>true
  |n+1,u=>u n&&mH n u
theorem EA{u:Nat->Bool}: ∀{n:Nat},mH n u=true-> ∀id,id<n->u id=true
  |0,_,_,h=>bz h (rj _)
  |n+1,h,id,hid=>by
    simp[mH] at h;by_cases e:id=n
    · subst e;exact h.1
    · exact EA h.2 id O
def pN:Nat->V:=λ_=> .cY
def oX:Nat->Option E:=λ_=>none
def gr:Nat->Bool:=λ_=>false
theorem o6.nil(t:Nat->V)(u:Nat->Bool):o6 t u pN:=λ_=> .inl rfl
theorem o6.aS{t:Nat->V}{u:Nat->Bool}{r:Nat->V}{d:Nat}{v:V}(h:dv (t d) v)(c:v.ok u=true)(e:o6 t u r):o6 t u (Lift.aS r d v):=by
  intro i;by_cases a:i=d
  · subst a;rw[bP];exact .inr ⟨h,c⟩
  · rw[bQ _ _ _ _ a];exact e i
theorem lv.nil(H:Nat->Option E)(u:Nat->Bool):lv H u oX:=λ_ _ h=>by simp[oX] at h
theorem lv.aS{H:Nat->Option E}{u:Nat->Bool}{r:Nat->Option E}{d:Nat}(c:E)(h:H d=some c)(l:ju c e)(m:u d=true)(n:e.ok u=true)(o:lv H u r):lv H u (Lift.aS r d (some e)):=by
  intro i e' a;by_cases k:i=d
  · subst k;rw[bP] at a;cases a;exact⟨⟨c,h,l⟩,m,n⟩
  · rw[bQ _ _ _ _ k] at a;exact o i e' a
theorem tL.nil(u:Nat->Bool):tL u gr:=λ_ h=>by simp[gr] at h
theorem tL.aS{u r:Nat->Bool}{d:Nat}(h:u d=true)(e:tL u r):tL u (Lift.aS r d true):=by
  intro i a;by_cases c:i=d
  · subst c;exact h
  · rw[bQ _ _ _ _ c] at a;exact e i a
theorem cC.under{u:Nat->Bool}(h:cC β w X k e)(F: ∀b,A b->X b)
    (a: ∀k,u k=true->β' k=β k) (l:u k=true) (L:e.ok u=true) (Q: ∀b,β'.n k b↔β.n k b:=by exact λ_=>Iff.rfl):cC β' w A k e:=by
  cases e with
  |cells cs=>
    obtain⟨b,r,ty,p,q,s,y⟩:=h;exact⟨b,r,ty,by rw[a k l];exact p,q,s,λi c u G W=>(y i c u G W).under F a (vO L G)⟩
  |arr ty gen R z=>
    refine⟨h.1,?_⟩;rcases h.2 with ⟨p,q⟩|⟨b,r,p,q,s,y,C⟩
    · exact .inl ⟨by rw[a k l];exact p,q⟩
    · exact .inr ⟨b,r,by rw[a k l];exact p,q,s,y,λi j o x u aI a2 a3=>(C i j o x u aI a2 a3).mono (Ext.refl _ _) λb _=>F b⟩
  |a7 N m gen z S=>
    refine⟨h.1,?_⟩;rcases h.2 with ⟨p,q,f⟩|⟨b,r,B,p,q,s,y,C,t,D,I⟩
    · exact .inl ⟨by rw[a k l];exact p,q,λc G=>f c ((Q c).1 G)⟩
    · refine .inr ⟨b,r,B,by rw[a k l];exact p,q,s,y,λi j o x u aI a2 a3=>⟨λv K=>⟨((C i j o x u aI a2 a3).1 v K).1.under F a (FI L K),((C i j o x u aI a2 a3).1 v K).2⟩,
        λM=>((C i j o x u aI a2 a3).2 M).mono (Ext.refl _ _) (λb _=>F b) λ_ _=>rfl⟩,t,D,λc=>(Q c).trans (I c)⟩
def cut(β:Map)(u:Nat->Bool):Map:=⟨λid=>bif u id then β id else none,λid b=>u id=true/\β.n id b⟩
theorem BD{u:Nat->Bool}{b:Nat}(h:At (cut G u) n b):At G n b:=by
  rcases h with ⟨g,h⟩|h
  · refine .inl ⟨g,?_⟩;by_cases a:u n=true
    · simpa[cut,a] using h
    · simp[cut,a] at h
  · exact .inr h.2
theorem xi{u:Nat->Bool}{id:Nat}(h:u id=true):cut G u id=G id:=by simp[cut,h]
theorem EC{s s':S}(c:lv s.H s'.u s'.H): ∀b,own K (cut β s'.u) s'.H b->own K β s.H b:=by
  rintro b (h|⟨id,i,k⟩)
  · exact .inl h
  · cases a:s'.H id with
    |none=>exact bz a i
    |some e=>
      obtain⟨m,l,_⟩:=(c id e a).1;exact .inr ⟨id,by rw[l];simp,BD k⟩
theorem Rel.cut{s s':S}{a:Act}(l:Rel K β s a w)(q:o6 s.t s'.u s'.t)(p:lv s.H s'.u s'.H)(n:mH K.c6 s'.u=true):Rel K (cut β s'.u) s' a w:=by
  have c:=EC (K:=K) (β:=β) p;refine {l with base:= ?_,low:=EA n,dF:= ?_,ea:= ?_,inj:= ?_,fresh:= ?_,heap:= ?_,cW:= ?_}
  · exact l.base.keep λid hid=>xi (EA n id hid)
  · intro id hid;simp[Lift.cut,hid]
  · intro id b hid h;rw[h.1] at hid;cases hid
  · intro id o b m k;exact l.inj id o b (BD m) (BD k)
  · intro id b h;exact l.fresh id b (BD h)
  · intro id e r;obtain⟨⟨x,m,n⟩,k,y⟩:=p id e r;exact⟨k,(n.vB (l.heap id x m).2).under c (λ_ h=>xi h) k y λ_=>⟨λh=>h.2,λh=>⟨k,h⟩⟩⟩
  · intro i;rcases q i with h|⟨m,k⟩
    · rw[h];exact .cY _
    · exact(m _ _ _ _ (l.cW i)).under c (λ_ h=>xi h) k
theorem abJ{s s':S}(a:o6 s.t s'.u s'.t)(c:lv s.H s'.u s'.H)(_hu:tL s.u s'.u)(e:mH K.c6 s'.u=true):s.le K s':=
  λh _ _ i=>⟨Lift.cut h s'.u,i.cut a c e⟩
def AE:Value->V
  | .bool b=> .t (.bool b)
  | .int k n=> .t (.int k n)
  | .string s=> .t (.str s.data.toList)
  | .slice none 0 0=> .t .fe
  | .pointer none=> .t .gV
  | .nilIface=> .t .gw
  | .nilFunc=> .t .nB
  |_=> .cY
def gQ:Value->V
  | .agg cs=> .agg (cs.toList.map AE)
  |v=>AE v
def S.get(s:S):Operand->V
  | .tmp t=>s.t t
  | .const v=>gQ v
  | .func f=> .fn f []
  | .global _=> .cY
theorem K1(a:Map)(w:World)(X:Nat->Prop)(v:Value):bk a w X (AE v) v:=by
  unfold AE;split
  · exact .t _ _ (.bool _)
  · exact .t _ _ (.int _ _)
  · rename_i s;have h:=cP.str (w:=w) (X:=X) s.data.toList;exact .t _ _ (by simpa using h)
  · exact .t _ _ .fe
  · exact .t _ _ .gV
  · exact .t _ _ .gw
  · exact .t _ _ .nB
  · exact .cY _
theorem yU(β:Map)(w:World)(X:Nat->Prop)(v:Value):bk β w X (gQ v) v:=by
  unfold gQ;split
  · rename_i cs;exact .agg _ _ aP (λi c u a h=>by
      simp only[List.getElem?_map,Array.getElem?_toList,Option.map_eq_some_iff] at a;obtain⟨l,e,k⟩:=a;rw[h] at e;cases e;rw[<-k];exact K1 _ _ _ _)
  · exact K1 _ _ _ _
def dj(β:Map)(w:World)(X:Nat->Prop):List V->List Value->Prop
  | [],[]=>True
  |v::a,u::c=>bk β w X v u/\dj β w X a c
  |_,_=>False
theorem dj.mono{β β':Map}{w w':World}{X A:Nat->Prop}: ∀{c:List V} {i:List Value},dj β w X c i->Ext X w w'->(∀b,b<w.heap.size->A b->X b)->
    di β β'->Shaped β w w'->dj β' w' A c i
  | [],[],_,_,_,_,_=>trivial
  |_::_,_::_,h,e,k,a,l=>⟨h.1.mono e k a l,dj.mono h.2 e k a l⟩
  | [],_::_,h,_,_,_,_=>h.elim
  |_::_,[],h,_,_,_,_=>h.elim
theorem dj.le: ∀{β:Map} {w:World} {X:Nat->Prop} {c a:List V} {e:List Value},dj β w X c e->fh c a->dj β w X a e
  |_,_,_,[],[],[],_,_=>trivial
  |_,_,_,_::_,_::_,_::_,h,k=>⟨k.1 _ _ _ _ h.1,dj.le h.2 k.2⟩
  |_,_,_,[],_::_,_,_,k=>k.elim
  |_,_,_,_::_,[],_,_,k=>k.elim
  |_,_,_,[],[],_::_,h,_=>h.elim
  |_,_,_,_::_,_::_,[],h,_=>h.elim
theorem Rel.get{s:S}{a:Act}(h:Rel K β s a w)(x:Operand):bk β w (own K β s.H) (s.get x) (a.eval x):=by
  cases x with
  |tmp t=>exact h.cW t
  |const v=>exact yU _ _ _ v
  |func f=>exact .fn f [] #[] rfl (λi c u e _=>by simp at e)
  |global g=>exact .cY _
theorem Rel.oq{s:S}{a:Act}(h:Rel K β s a w): ∀c:List Operand,dj β w (own K β s.H) (c.map s.get) (c.map a.eval)
  | []=>trivial
  |x::c=>⟨h.get x,h.oq c⟩
def b4(P:Program)(H:Nat->Option E)(o:Oper)(a:List V)(v:V):Prop:=
  ∀(c:Map) (w:World) (X:Nat->Prop) (h:Operand->Value),(∀id e,H id=some e->cC c w X id e)->
    dj c w X a (o.op.operands.toList.map h)-> ∃u,(execOp h o).run P w= .ok (.value u) w/\bk c w X v u
def dO(K:Ctx)(o:Oper)(s i:S):Prop:=
  ∀k a w next Q,Rel K k s a w->(∀c e h,Rel K c i e h->next e h)->o.wp K.P a w next Q
def S.put(s:S)(d:Option Tmp)(v:V):S:=match d with
  |some d=>{s with t:=aS s.t d v}
  |none=>s
theorem Rel.put{s:S}{a:Act}(h:Rel K β s a w)(d:Option Tmp)(k: ∀i,d=some i->Nat.blt i K.nt=true){v:V}(l:bk β w (own K β s.H) v u):
    Rel K β (s.put d v) (a.put d u) w:=by
  cases d with
  |none=>exact h
  |some d=>
    have c:d<a.tmps.size:=by rw[h.nt];have:=k d rfl;simpa[Nat.blt_eq] using this
    refine {h with cW:= ?_,nt:= ?_}
    · intro i;simp only[Act.put,S.put];by_cases e:i=d
      · subst e;rw[bP];simp only[Array.getD_eq_getD_getElem?,Array.getElem?_setIfInBounds_self_of_lt c,Option.getD_some];exact l
      · rw[bQ _ _ _ _ e];simp only[Array.getD_eq_getD_getElem?,Array.getElem?_setIfInBounds_ne (Ne.symm e)]
        have:=h.cW i;simpa only[Array.getD_eq_getD_getElem?] using this
    · simpa[Act.put] using h.nt
theorem UT{o:Oper}{s:S}{vals:List V}{v:V}(m: ∀i,o.dst=some i->Nat.blt i K.nt=true)(n:fh (o.op.operands.toList.map s.get) vals)(h:b4 K.P s.H o vals v):
    dO K o s (s.put o.dst v):=by
  intro k a w next Q l p
  obtain⟨u,c,q⟩:=h k w (own K k s.H) a.eval (λid e r=>(l.heap id e r).2) ((l.oq _).le n);unfold Oper.wp;rw[c];exact p k _ w (l.put o.dst m q)
section nT
variable {P:Program}{H:Nat->Option E}{d:Option Tmp}{ty:TypeId}{pos:String}{af:Array Edge}{g:Option (Nat×Bool)}
theorem abl(x:Operand)(v:V):b4 P H ⟨d,.move x,ty,pos,af,g⟩ [v] v:=by intro e w X a _ c;exact⟨a x,rfl,c.1⟩
theorem Ys(x:Operand)(v:V):b4 P H ⟨d,.assign x,ty,pos,af,g⟩ [v] v:=by intro e w X a _ c;exact⟨a x,rfl,c.1⟩
theorem nA{b:Bool}(h:bk G w X (.t (.bool b)) u):u= .bool b:=by cases h with|t _ _ h=>cases h with|bool=>rfl
theorem dy{k:IntKind}{n:Int}(h:bk G w X (.t (.int k n)) u):u= .int k n:=by cases h with|t _ _ h=>cases h with|int=>rfl
theorem hb{l:List UInt8}(h:bk G w X (.t (.str l)) u):u= .string ⟨l.toArray⟩:=by cases h with|t _ _ h=>cases h with|str=>rfl
theorem Vw(c x y:Operand)(v e:V):b4 P H ⟨d,.pick c x y,ty,pos,af,g⟩ [.t (.bool true),v,e] v:=by
  intro i w X h _ a;refine⟨h x,?_,a.2.1⟩
  have:=nA a.1;simp[execOp,this,asBool]
theorem UO(c x y:Operand)(v c9:V):b4 P H ⟨d,.pick c x y,ty,pos,af,g⟩ [.t (.bool false),v,c9] c9:=by
  intro h w X e _ a;refine⟨e y,?_,a.2.2.1⟩
  have:=nA a.1;simp[execOp,this,asBool]
theorem acW(x y:Operand)(t c:TypeId)(k:IntKind)(m n:Int):b4 P H ⟨d,.binOp .add t x y c,ty,pos,af,g⟩ [.t (.int k m),.t (.int k n)] (.t (.int k (k.wrap (m+n)))):=by intro e w X h _ a;refine⟨.int k (k.wrap (m+n)),?_,.t _ _ (.int _ _)⟩;simp[execOp,dy a.1,dy a.2.1,eqGuard,binOp,Op.intArith]
end nT
end
section
def cD(K:Ctx)(c:Code)(s:S)(Q:Exit->S->Prop):Prop:=
  ∀m a w h,Rel K m s a w->(∀e i d k l,Q e i->Rel K d i k l->h e k l)->c.wp K.P h a w
def qi(K:Ctx)(c:Array Oper)(l:List Oper)(s:S)(Q:S->Prop):Prop:=
  ∀m a w e,Rel K m s a w->(∀h d i k,Q h->Rel K d h i k->e .normal i k)->wpList K.P c e l a w
def qm(next:S->Prop)(Q:Exit->S->Prop):Exit->S->Prop
  | .normal,s=>next s
  |e,s=>Q e s
def xt(c:Nat)(Q:Exit->S->Prop):Exit->S->Prop
  | .exit a,s=>bif Nat.beq a c then Q .normal s else Q (.exit a) s
  |e,s=>Q e s
def BM(a:S->Prop)(Q:Exit->S->Prop):Exit->S->Prop
  | .normal,s=>a s
  |e,s=>Q e s
variable {P:Program}{c x y:Code}{a:Act}{w:World}{b:Bool}{n t:Nat}{β:Map}{X:Nat->Prop}
theorem TJ{R:Type}{Q:Exit->Act->World->Prop}(A:R->Act->World->Prop)(l8 :R->Nat)(x:R)(L:A x a w)
    (p: ∀x a w,A x a w->c.wp P (Exit.then (λz w'=> ∃y,A y z w'/\ l8 y< l8 x) Q) a w):(Code.loop c).wp P Q a w:=by
  intro b k cs;have G: ∀n x a w,l8 x=n->A x a w->
      ∃e z w',Q e z w'/\Arrives P (lone (b.at a (.code c:: .inLoop c::k)) cs w) b k cs e z w':=by
    intro n;induction n using Nat.strongRecOn with
    |_ n W=>
      intro x a w X f;obtain⟨e,h,i,o,d⟩:=p x a w f b (.inLoop c::k) cs;cases e with
      |normal=>
        obtain⟨y,q,H⟩:=o;obtain⟨B,C,F,r,m⟩:=W (l8 y) (X▸H) y h i rfl q;exact⟨B,C,F,r,.of_steps (Steps.trans d (.one step_inLoop)) m⟩
      |exit id=>exact⟨_,h,i,o,.pass (x:= .inLoop c) rfl (λ_ _=> .inl aP) d⟩
      |goto l=>exact⟨_,h,i,o,.pass (x:= .inLoop c) rfl (λ_ _=> .inl aP) d⟩
      |ret=>exact⟨_,h,i,o,.pass (x:= .inLoop c) rfl (λ_ _=> .inl aP) d⟩
      |panic g=>exact⟨_,h,i,o,.pass (x:= .inLoop c) rfl (λ_ _=> .inl aP) d⟩
      |outgrown=>exact⟨_,h,i,o,.pass (x:= .inLoop c) rfl (λ_ _=> .inl aP) d⟩
  obtain⟨e,z,w',o,d⟩:=G _ x a w rfl L;exact⟨e,z,w',o,.of_steps (.one step_loop) d⟩
section rules
variable {K:Ctx}{s:S}{Q:Exit->S->Prop}
theorem wv{E:Exit->S->Prop}(h:cD K c s Q)(k: ∀e s,Q e s->E e s):cD K c s E:=
  λl a w m n o=>h l a w m n λe i d p x q r=>o e i d p x (k e i q) r
theorem vr{b:S}(i:s.le K b)(h:cD K c b Q):cD K c s Q:=
  λk a w l m n=>let ⟨d,e⟩:=i k a w m;h d a w l e n
theorem A4(h:cD K x s (qm (λn=>cD K y n Q) Q)):cD K (.seq x y) s Q:=by
  intro o a w p q i;refine wp_seq (h o a w _ q ?_);intro e A m r z k d;cases e with
  |normal=>exact k m r z p d i
  |exit id=>exact i _ _ _ _ _ k d
  |goto l=>exact i _ _ _ _ _ k d
  |ret=>exact i _ _ _ _ _ k d
  |panic c=>exact i _ _ _ _ _ k d
  |outgrown=>exact i _ _ _ _ _ k d
theorem X9(h:Q .normal s):cD K .skip s Q:=λc a w _ d e=>wp_skip (e _ _ c a w h d)
theorem aah(h:Q .ret s):cD K .ret s Q:=λc a w _ d e=>wp_ret (e _ _ c a w h d)
theorem Ya(h:Q (.exit n) s):cD K (.exit n) s Q:=λc a w _ d e=>wp_exit (e _ _ c a w h d)
theorem j3{c:Operand}(l:s.get c= .t (.bool b))(m:b=true->cD K x s Q)(n:b=false->cD K y s Q):cD K (.cond c x y) s Q:=by
  intro e a w i d k;have h:=d.get c;rw[l] at h;have aY:=nA h;cases b with
  |true=>exact wp_cond_true aY (m rfl e a w i d k)
  |false=>exact wp_cond_false aY (n rfl e a w i d k)
theorem XN(h:cD K c s (xt n Q)):cD K (.block n c) s Q:=by
  intro o a w x p m;refine wp_block (h o a w _ p ?_);intro e y q z A k d;cases e with
  |exit i=>
    by_cases hid:i=n
    · subst hid;simp only[xt,Exit.inBlock,if_true] at*;rw[show Nat.beq i i=true by simp,cond_true] at k;exact m _ _ _ _ _ k d
    · simp only[xt,Exit.inBlock] at*;rw[aZ hid];rw[show Nat.beq i n=false from by cases r:Nat.beq i n with
        |false=>rfl
        |true=>exact bz (cL r) hid,cond_false] at k
      exact m _ _ _ _ _ k d
  |normal=>exact m _ _ _ _ _ k d
  |goto l=>exact m _ _ _ _ _ k d
  |ret=>exact m _ _ _ _ _ k d
  |panic c=>exact m _ _ _ _ _ k d
  |outgrown=>exact m _ _ _ _ _ k d
theorem X'{ι:Type}(A:ι->S)(p:ι->Prop)(l8 :ι->Nat)(x:ι)(W:p x)(X:s.le K (A x))
    (h: ∀x,p x->cD K c (A x) (BM (λR=> ∃y,p y/\ l8 y< l8 x/\R.le K (A y)) Q)):cD K (.loop c) s Q:=by
  intro b a w v f m;obtain⟨i,o⟩:=X b a w f;refine TJ (λy g j=>p y/\ ∃i,Rel K i (A y) g j) l8 x ⟨W,i,o⟩ ?_;intro y aI t ⟨q,r,B⟩;refine h y q r aI t _ B ?_;intro e R C a2 u k d;cases e with
  |normal=>
    obtain⟨z,F,G,n⟩:=k;obtain⟨H,L⟩:=n C a2 u d;exact⟨z,⟨F,H,L⟩,G⟩
  |exit id=>exact m _ _ _ _ _ k d
  |goto l=>exact m _ _ _ _ _ k d
  |ret=>exact m _ _ _ _ _ k d
  |panic c=>exact m _ _ _ _ _ k d
  |outgrown=>exact m _ _ _ _ _ k d
theorem Yb{V:Array Oper}{Q:S->Prop}(h:Q s):qi K V [] s Q:=λc a w _ d e=>e s c a w h d
theorem Rel.bool(i:Rel K β s a w)(h:s.t t= .t (.bool b)):a.tmps[t]? =some (.bool b):=by
  have d:=i.cW t;rw[h] at d;have c:=nA d;rw[rn] at c;cases e:a.tmps[t]? with
  |none=>rw[e] at c;simp[undef] at c
  |some x=>rw[e] at c;simp at c;rw[c]
theorem MT{G:Map}:bk G w X (.bH []) undef:= .bH [] #[] rfl λi c u h _=>by simp at h
theorem Rel.ag6(e:Rel K β s a w){ops:Array Oper}{j:Nat}{want:Bool}(m:(ops[j]?).bind (·.dst)=some t)(h:s.t t= .bH []):yielded ops a.tmps j≠some want:=by
  have c:=e.cW t;rw[h] at c;have d:a.tmps.getD t undef= .tuple #[]:=by
    generalize a.tmps.getD t undef=y at c;cases c with
    |bH _ i k _=>
      have:i= #[]:=by simpa using k
      rw[this]
  have n: ∀b,a.tmps[t]? ≠some (.bool b):=by
    intro b l;rw[rn,l] at d;simp at d
  unfold yielded
  grind
def gT:Map:=⟨λ_=>none,λ_ _=>False⟩
theorem FJ{b:Nat}(h:At gT n b):False:=by
  rcases h with ⟨_,h⟩|h
  · simp[gT] at h
  · exact h
def EF(P:Program)(G:eY)(f:FuncId)(args:List V)(r:V):Prop:=
  ∀(w:World) (X:Nat->Prop) (a:List Value),G.ok w->(∀b,X b->b<w.heap.size)->dj gT w X args a->
    Calls P f a.toArray w λe c=> ∃u,e= .returned u/\Ext (λ_=>False) w c/\bk gT c X r u
theorem bk.any{A:Nat->Prop}{x:V}{v:Value}(h:bk gT w X x v)(a: ∀b,A b->X b):bk β w A x v:=
  h.mono (Ext.refl _ _) (λb _=>a b) (λ_ _ _ h=>by simp[gT] at h) (Shaped.refl _ _)
theorem dj.I': ∀{β:Map} {w:World} {X:Nat->Prop} {a:List V} {d:List Value},dj β w X a d->gv gr a=true->dj gT w X a d
  |_,_,_,[],[],_,_=>trivial
  |_,_,_,_::_,_::_,h,c=>by
    simp[gv] at c;exact⟨h.1.under (u:=gr) (λ_ h=>h) (λ_ h=>by simp[gr] at h) c.1,dj.I' h.2 c.2⟩
  |_,_,_,[],_::_,h,_=>h.elim
  |_,_,_,_::_,[],h,_=>h.elim
theorem Rel.grow{w':World}(h:Rel K β s a w)(e:Ext (λ_=>False) w w'):Rel K β s a w':=by
  have c:Ext (own K β s.H) w w':=e.weaken λ_ _ h=>h.elim;refine {h with ext:=h.ext.trans (e.weaken λ_ _ h=>h.elim),iT:=h.iT.ext h.ext.size e,fresh:= ?_,heap:= ?_,cW:= ?_}
  · intro id b d;exact⟨(h.fresh id b d).1,l2 (h.fresh id b d).2 e.size⟩
  · intro id k l;obtain⟨m,n⟩:=h.heap id k l;exact⟨m,n.mono c (λ_ _ h=>h) (di.refl _) (λ_ h=>h) (qA e) λb d=>e.keep b (h.fresh id b d).2 λh=>h⟩
  · intro i;exact(h.cW i).mono c (λ_ _ h=>h) (di.refl _) (qA e)
theorem dO.call{o:Oper}{f:FuncId}{d:Func}{c:Array Operand}{k:Array TypeId}{vals:List V}{r:V}
    (A:o.op= .call {callee:= .value (.func f),args:=c,argTypes:=k}) (B:K.P.funcs[f]? =some d) (C:(d.name== "runtime.NumGoroutine")=false) (q:d.body.isNone=false)
    (F: ∀i,o.dst=some i->Nat.blt i K.nt=true) (L:fh (c.toList.map s.get) vals) (R:gv gr vals=true) (h:EF K.P K.G f vals r):dO K o s (s.put o.dst r):=by
  intro x a w next Q m W
  have y:d.name≠ "runtime.NumGoroutine" :=by simpa using C
  have z:d.body≠none:=by intro e;simp[e] at q
  have n:(execOp a.eval o).run K.P w= .ok (.enter f (c.map a.eval)) w:=by
    simp[execOp,A,resolve,Deferred.ofValue,Act.eval,invoke,callFunc,B,y,z]
  unfold Oper.wp;rw[n,Oper.upon_enter];have l:=(dj.le (m.oq c.toList) L).I' R;have X: ∀b,own K x s.H b->b<w.heap.size:=by
    rintro b (g|⟨id,_,q⟩)
    · exact l2 (m.iz b g).1 m.ext.size
    · exact(m.fresh id b q).2
  have bG:=h w (own K x s.H) _ m.B5 X l;have j:(List.map a.eval c.toList).toArray=c.map a.eval:=by rw[<-vS]
  rw[j] at bG;refine bG.mono ?_;rintro e t ⟨u,rfl,p,v⟩;exact W x _ t ((m.grow p).put o.dst F (v.any λ_ h=>h))
def tH:List V->Nat->(Nat->V)
  | [],_=>pN
  |v::a,i=>aS (tH a (i+1)) i v
theorem En{G:Map}{w:World}{X:Nat->Prop}: ∀(a:List V) (c:List Value) (i:Nat),dj G w X a c-> ∀j,bk G w X (tH a i (i+j)) (c.getD j undef)
  | [],_,_,_,_=> .cY _
  |v::a,u::c,i,h,0=>by
    rw[rm,tH,bP];exact h.1
  |v::a,u::c,i,h,j+1=>by
    rw[tH,bQ _ _ _ _ O,show i+(j+1)=(i+1)+j by omega];simpa using En a c (i+1) h.2 j
  |_::_,[],_,h,_=>h.elim
theorem dj.length: ∀{β:Map} {w:World} {X:Nat->Prop} {vs:List V} {a:List Value},dj β w X vs a->a.length=vs.length
  |_,_,_,[],[],_=>rfl
  |_,_,_,_::_,_::_,h=>by simp[dj.length h.2]
  |_,_,_,[],_::_,h=>h.elim
  |_,_,_,_::_,[],h=>h.elim
def Ctx.pure(P:Program)(G:eY)(w:World)(X:Nat->Prop)(nt:Nat):Ctx:={P,G,w0:=w,X,c6:=0,fW:=gT,nt}
def start(args:List V):S:={t:=tH args 0,H:=oX,u:=gr}
theorem Rel.start{G:eY}{nt:Nat}{args:List V}{a:List Value}(e:G.ok w)(k: ∀b,X b->b<w.heap.size)(h:dj gT w X args a)(n:a.length<=nt):
    Rel (Ctx.pure P G w X nt) gT (Lift.start args) {tmps:=a.toArray++Array.replicate (nt-a.toArray.size) undef,defers:=[]} w:=by
  have d: ∀b,¬(Ctx.pure P G w X nt).M b:=by rintro b ⟨id,h,_⟩;simp[Ctx.pure] at h
  refine {ext:=Ext.refl _ _,ot:=e,oC:=λb h=>bz h (d b),iz:=λb h=>⟨k b h,d b⟩,base:=kh.refl _ _ _,iT:=Shaped.refl _ _,low:=λ_ h=>bz h (rj _),dF:=λ_ _=>rfl,
           ea:=λ_ _ _ h=>h,qL:=λ_ _ _ h=>(FJ h).elim,inj:=λ_ _ _ h=>(FJ h).elim,fresh:=λ_ _ h=>(FJ h).elim,heap:=λ_ _ h=>by simp[Lift.start,oX] at h,cW:= ?_,nt:= ?_,defers:=rfl}
  · intro i;have c:=En args a 0 h i;rw[dt] at c;have l:(a.toArray++Array.replicate (nt-a.toArray.size) undef).getD i undef=a.getD i undef:=by
      simp only[Array.getD_eq_getD_getElem?,List.getD_eq_getElem?_getD,Array.getElem?_append]
      grind
    simp only[l];refine c.mono (Ext.refl _ _) ?_ (di.refl _) (Shaped.refl _ _);rintro b _ (m|⟨id,c,_⟩)
    · exact m
    · simp[Lift.start,oX] at c
  · simp[Ctx.pure];omega
end rules
end
set_option linter.unusedVariables false
set_option linter.unusedSimpArgs false
section
def ca(P:Program)(t:TypeId)(u:TypeDesc)(z:Value)(c a:Nat):Prop:=
 P.underlying t=some u/\ ∃i,P.info? t=some i/\i.zero=some z/\i.size=c/\i.bytes=a
variable {n b i k gen m:Nat}{a:Act}{v:V}{G β:Map}{X:Nat->Prop}{q:Option Nat}
theorem ca.of{P:Program}{t:TypeId}{u:TypeDesc}{z:Value}{bytes:Nat}(h:P.underlying t=some u)(a:(P.info? t).map (λi=>(i.zero,i.size,i.bytes))=some (some z,n,bytes)):ca P t u z n bytes:=by
 cases c:P.info? t with
 |none=>rw[c] at a;cases a
 |some i=>
  rw[c] at a;simp only[Option.map_some,Option.some.injEq,Prod.mk.injEq] at a;exact⟨h,i,c,a.1,a.2.1,a.2.2⟩
def ko:TypeDesc->Bool
 | .struct _=>true
 | .array _ _=>true
 |_=>false
section runs
variable {P:Program}{t:TypeId}{u:TypeDesc}{z:Value}{size bytes:Nat}(w:World)
theorem ca.C9(h:ca P t u z size bytes):(isAgg t).run P w= .ok (ko u) w:=by obtain⟨a,_⟩:=h;simp only[isAgg,Sem.run_bind,run_underlying a,Result.andThen_ok];cases u<;>rfl
theorem ca.run_sizeOf(h:ca P t u z size bytes):(sizeOf t).run P w= .ok size w:=by obtain⟨_,i,a,e,c,k⟩:=h;simp[sizeOf,typeInfo,a,c]
theorem ca.tc(h:ca P t u z size bytes):(zeroValue t).run P w= .ok z w:=by obtain⟨_,i,a,c,e,k⟩:=h;simp[zeroValue,typeInfo,a,c]
theorem ca.C'(h:ca P t u z size bytes)(c:ko u=false){a:Addr}{v:Value}(e:w.cell? a=some v):(loadVar t a).run P w= .ok v w:=by simp only[loadVar,Sem.run_bind,h.C9,Result.andThen_ok,c];simp[e]
theorem jg(b o i:Nat):(⟨b,o,none⟩:Addr).add i=⟨b,o+i,none⟩:=by unfold Addr.add;split<;>simp_all
theorem ca.Da(h:ca P t u z size bytes)(a:ko u=true){o:Nat}{f:Nat->Value}(c: ∀j,j<size->w.cell? ⟨b,o+j,none⟩=some (f j)):
  (loadVar t ⟨b,o,none⟩).run P w= .ok (.agg ((List.range size).map f).toArray) w:=by simp only[loadVar,Sem.run_bind,h.C9,h.run_sizeOf,Result.andThen_ok,a,if_true];rw[run_loadCells w ⟨b,o,none⟩ size f λj e=>by rw[jg];exact c j e];rfl
end runs
section nT
variable {P:Program}{H:Nat->Option E}{d:Option Tmp}{ty:TypeId}{pos:String}{af:Array Edge}{g:Option (Nat×Bool)}
variable {t:TypeId}{u:TypeDesc}{z:Value}{size bytes:Nat}
theorem rA{w:World}{u:Value}(h:bk G w X (.ref i n) u): ∃b,G i=some (some b,0)/\u= .pointer (some ⟨b,n,none⟩):=by cases h with|ref _ _ b a=>exact⟨b,a,rfl⟩
theorem oG{w:World}{u:Value}(h:bk G w X (.cw k gen n i m) u)(a:G k=some (q,gen)): ∃b,q=some b/\u= .pointer (some ⟨b,i*n+m,none⟩):=by
 cases h with
 |cw _ _ _ _ _ b e c=>rw[c] at a;cases a;exact⟨b,rfl,rfl⟩
 |lD _ _ _ _ _ _ l g o c e=>rw[c] at a;cases a;omega
theorem jl{w:World}{c:TypeId}{a:List (List T)}(h:cC G w X i (.arr c gen n a)): ∃q,G i=some (q,gen):=by
 rcases h.2 with ⟨e,_⟩|⟨b,k,e,_⟩
 ·exact⟨_,e⟩
 exact⟨_,e⟩
theorem GV{w:World}{a:List T}{u:Value}(h:bk G w X (.aL a) u): ∃(b c:Nat) (f:Nat->Value),u= .pointer (some ⟨b,c,none⟩)/\b<w.heap.size/\ ¬X b/\
  (∀j,j<a.length->w.cell? ⟨b,c+j,none⟩=some (f j))/\ ∀(j:Nat) (x:T),a[j]? =some x->cP w X x (f j):=by cases h with|aL _ b c f e i k l=>exact⟨b,c,f,rfl,e,i,k,l⟩
theorem aaf(x:Operand)(i a:Nat)(k:List V)(c:V)(p:ca P t u z size bytes)(q:ko u=false)(r:H i=some (.cells k))(m:k[a]? =some c):
  b4 P H ⟨d,.load t x,ty,pos,af,g⟩ [.ref i a] c:=by
 intro Q w X R y A;obtain⟨b,B,C⟩:=rA A.1;obtain⟨W,l,F,n,G,o,L⟩:=y i _ r;rw[B] at n;cases n;have h:a<k.length:=(bU.1 m).1;have e:w.cell? ⟨b,a,none⟩=some l[a]:=by simp[World.cell?,G,o,h]
 refine⟨l[a],?_,L a c l[a] m (by simp[o,h])⟩;simp[execOp,C,Instr.loadAt,Instr.sureAddr,p.C' w q e]
theorem aae(x:Operand)(k a:Nat)(h:List V)(n:ca P t u z size bytes)(o:ko u=true)(p:H k=some (.cells h))(q:Nat.ble (a+size) h.length=true):
  b4 P H ⟨d,.load t x,ty,pos,af,g⟩ [.ref k a] (.agg ((h.drop a).take size)):=by
 intro Q w X R r y;obtain⟨b,A,B⟩:=rA y.1;obtain⟨W,l,C,m,F,f,D⟩:=r k _ p;rw[A] at m;cases m;have G:a+size<=h.length:=dY q;have e: ∀j,j<size->w.cell? ⟨b,a+j,none⟩=some (l.getD (a+j) undef):=λj I=>by
  have:a+j<l.size:=O
  simp[World.cell?,F,this]
 refine⟨_,by simp[execOp,B,Instr.loadAt,Instr.sureAddr,n.Da w o e];rfl,?_⟩;refine .agg _ _ bN (λi c v L M=>?_)
 grind
theorem WG(x:Operand)(c:T)(r:List T)(a:ca P t u z size bytes)(e:ko u=false):b4 P H ⟨d,.load t x,ty,pos,af,g⟩ [.aL (c::r)] (.t c):=by intro o w X p q h;obtain⟨b,i,f,k,y,A,l,m⟩:=GV h.1;have n:=l 0 aP;refine⟨f 0,?_,.t _ _ (m 0 c aP)⟩;simp only[execOp,k,Instr.loadAt,Instr.sureAddr,Sem.run_bind,Sem.run_pure,Result.andThen_ok];rw[a.C' w e (v:=f 0) (by simpa using n)];rfl
theorem WE(x:Operand)(h:List T)(n:ca P t u z size bytes)(o:ko u=true)(B:size<=h.length):
  b4 P H ⟨d,.load t x,ty,pos,af,g⟩ [.aL h] (.agg ((h.take size).map .t)):=by
 intro C w X F G p;obtain⟨b,q,f,r,L,Q,k,y⟩:=GV p.1;refine⟨.agg ((List.range size).map f).toArray,?_,.agg _ _ bN λi c v a l=>?_⟩
 ·simp only[execOp,r,Instr.loadAt,Instr.sureAddr,Sem.run_bind,Sem.run_pure,Result.andThen_ok];rw[n.Da w o (f:=f) λj R=>k j O];rfl
 have m:i<size:=by
  have:=(bU.1 a).1;simp at this;omega
 rw[ev,List.getElem?_take_of_lt m] at a;simp only[List.getElem?_toArray,List.getElem?_map,List.getElem?_range m,Option.map_some,Option.some.injEq] at l;cases e:h[i]? with
 |none=>rw[e] at a;simp at a
 |some A=>rw[e] at a;simp at a;rw[<-a,<-l];exact .t _ _ (y i A e)
theorem UQ(x:Operand)(m gen i a:Nat)(o:TypeId)(sz:Nat)(e:List (List T))(h:List T)(c:T)(G:ca P t u z size bytes)(L:ko u=false)(B:H m=some (.arr o gen sz e))(n:e[i]? =some h)(Q:h[a]? =some c):
  b4 P H ⟨d,.load t x,ty,pos,af,g⟩ [.cw m gen sz i a] (.t c):=by
 intro v w X D C R;obtain⟨q,F⟩:=jl (C m _ B);obtain⟨b,p,W⟩:=oG R.1 F;subst p;have aY:=F;rcases(C m _ B).2 with ⟨r,y⟩|⟨I,A,r,y,M,N,f⟩
 ·rw[y] at n;simp at n
 rw[aY] at r;cases r;have j:i<e.length:=(bU.1 n).1;have U:a<sz:=by
  grind
 have l:i*sz+a<A.size:=by
  have:(i+1)*sz<=e.length*sz:=dx _ j
  grind
 have k:w.cell? ⟨b,i*sz+a,none⟩=some A[i*sz+a]:=by simp[World.cell?,y,l]
 refine⟨A[i*sz+a],?_,.t _ _ (f i a h c _ n Q (by simp[l]))⟩;simp[execOp,W,Instr.loadAt,Instr.sureAddr,G.C' w L k]
theorem VB(x:Operand)(o c k a:Nat)(p:Array Field)(e:Field)(q:TypeDesc)(r:Value)(h l:Nat)(y:P.underlying t=some (.struct p))(A:p[k]? =some e)(B:e.offset=a)(m:ca P e.type q r h l)(n:(h==0)=false):
  b4 P H ⟨d,.fieldAddr t x k,ty,pos,af,g⟩ [.ref o c] (.ref o (c+a)):=by
 intro L w X Q R C;obtain⟨b,F,G⟩:=rA C.1;have i:h≠0:=by simpa using n
 refine⟨.pointer (some ⟨b,c+a,none⟩),?_,.ref _ _ _ F⟩;simp[execOp,G,Instr.fieldAt,run_underlying y,A,Instr.sureAddr,fieldPlace,m.run_sizeOf,i,jg,B]
theorem WJ(x:Operand)(r:List T)(k a:Nat)(y:Array Field)(e:Field)(A:TypeDesc)(B:Value)(i n:Nat)(C:P.underlying t=some (.struct y))(F:y[k]? =some e)(G:e.offset=a)(o:ca P e.type A B i n)(p:(i==0)=false):
  b4 P H ⟨d,.fieldAddr t x k,ty,pos,af,g⟩ [.aL r] (.aL (r.drop a)):=by
 intro I w X M N L;have l:i≠0:=by simpa using p
 obtain⟨b,m,f,Q,R,W,q,v⟩:=GV L.1;refine⟨.pointer (some ⟨b,m+a,none⟩),?_,.aL _ b (m+a) (λj=>f (a+j)) R W (λj D=>?_) λj c h=>?_⟩
 ·simp[execOp,Q,Instr.fieldAt,run_underlying C,F,Instr.sureAddr,fieldPlace,o.run_sizeOf,l,jg,G]
 ·rw[pV];exact q (a+j) (by simp at D;omega)
 exact v (a+j) c (by simpa using h)
theorem UG(x:Operand)(l gen o i c k a:Nat)(C:Array Field)(e:Field)(Q:TypeDesc)(R:Value)(h p:Nat)(W:P.underlying t=some (.struct C))(f:C[k]? =some e)(j:e.offset=a)(r:ca P e.type Q R h p)(y:(h==0)=false)
  (A:TypeId) (m:List (List T)) (F:H l=some (.arr A gen o m)):b4 P H ⟨d,.fieldAddr t x k,ty,pos,af,g⟩ [.cw l gen o i c] (.cw l gen o i (c+a)):=by
 intro I w X M G v;obtain⟨q,L⟩:=jl (G l _ F);obtain⟨b,B,D⟩:=oG v.1 L;subst B;have aY:=L;have n:h≠0:=by simpa using y
 refine⟨.pointer (some ⟨b,i*o+(c+a),none⟩),?_,.cw _ _ _ _ _ _ (G l _ F).1 aY⟩;simp[execOp,D,Instr.fieldAt,run_underlying W,f,Instr.sureAddr,fieldPlace,r.run_sizeOf,n,jg,j,Nat.add_assoc]
theorem WI(x y:Operand)(e:TypeId)(k:List (List T))(l:List T)(n:Nat)(C:P.underlying t=some (.slice e))(F:ca P e u z size bytes)(o:k[n]? =some l)(G:l.length=size):
  b4 P H ⟨d,.indexAddr t x y,ty,pos,af,g⟩ [.t (.aA k),.t (.int .i64 (n:Nat))] (.aL l):=by
 intro N w X L U A;have cy:=dy A.2.1;have Q:n<k.length:=(bU.1 o).1;cases A.1 with
 |t _ _ h=>
  generalize R:L x=v at h;cases h with
  |fI a p=>simp at o
  |aA _ b m i p f W D B q I r=>
   have M:i=size:=by rw[<-G];exact(q l (bE o)).symm
   subst M;refine⟨.pointer (some ⟨b,m+n*i,none⟩),?_,.aL _ b (m+n*i) (λj=>f n j) W D (λj V=>I n j Q O) λj c h=>r n j l c o h⟩;simp[execOp,R,cy,Instr.indexAt,asIntOf,run_underlying C,F.run_sizeOf,jg];intro h;omega
theorem e3{w:World}{L:Nat}{u:Value}(h:bk G w X (.a8 L gen i m k) u)(c:G L=some (q,gen)):
  (∃a b n ty,u= .slice (some ⟨b,m*i,none⟩) k a/\q=some b/\b<w.heap.size/\w.shape? b=some (ty,n)/\(m+a)*i=n/\k<=a/\a<=maxLen)\/
  (q=none/\m=0/\k=0/\u= .slice none 0 0):=by
 cases h with
 |a8 _ _ _ _ _ a b n ty l e o p r x y=>rw[e] at c;cases c;exact .inl ⟨a,b,n,ty,rfl,rfl,o,p,r,x,y⟩
 |hi _ _ _ l e=>rw[e] at c;cases c;exact .inr ⟨rfl,rfl,rfl,rfl⟩
 |k7 _ _ _ _ _ _ A g B e l=>rw[e] at c;cases c;omega
theorem Vz(x y:Operand)(e:TypeId)(c gen a h n:Nat)(l:TypeId)(i:List (List T))(r:H c=some (.arr l gen size i))(F:P.underlying t=some (.slice e))(G:ca P e u z size bytes)(f:n<h):
  b4 P H ⟨d,.indexAddr t x y,ty,pos,af,g⟩ [.a8 c gen size a h,.t (.int .i64 (n:Nat))] (.cw c gen size (a+n) 0):=by
 intro j w X L A o;have cy:=dy o.2.1;generalize B:L x=v at o;have k:=o.1;simp only[B] at k;obtain⟨q,C⟩:=jl (A c _ r);rcases e3 k C with ⟨Q,b,m,R,rfl,p,D,I,W,M,N⟩|⟨_,_,U,_⟩
 ·subst p;refine⟨.pointer (some ⟨b,(a+n)*size+0,none⟩),?_,.cw _ _ _ _ _ b (A c _ r).1 C⟩;simp[execOp,B,cy,Instr.indexAt,asIntOf,run_underlying F,G.run_sizeOf,jg,Nat.add_mul]
  grind
 omega
end nT
def V.one:V->Bool
 | .t _=>true
 | .ref _ _=>true
 | .aL _=>true
 | .a8 _ _ _ _ _=>true
 | .cw _ _ _ _ _=>true
 | .fn _ _=>true
 | .agg _=>false
 | .bH _=>false
 | .cY=>false
def nK:List V->Bool
 | []=>true
 |v::a=>v.one&&nK a
theorem zz: ∀{c:List V} {i:Nat} {v:V},nK c=true->c[i]? =some v->v.one=true
 |v::c,0,_,h,a=>by simp at a;subst a;simp[nK] at h;exact h.1
 |v::c,i+1,_,h,a=>by simp at a;simp[nK] at h;exact zz h.2 a
 | [],_,_,_,a=>by simp at a
def V.cs:V->List V
 | .agg cs=>cs
 |v=>[v]
def V.val:V->Bool
 | .agg _=>true
 |v=>v.one
theorem bk.iR{w:World}{u:Value}(h:bk β w X v u)(a:v.one=true):u.oneCell'=true:=by
 cases h with
 |t x v h=>cases h<;>rfl
 |agg=>cases a
 |bH=>cases a
 |ref=>rfl
 |aL=>rfl
 |a8=>rfl
 |hi=>rfl
 |k7=>assumption
 |cw=>rfl
 |lD=>assumption
 |fn=>rfl
 |cY=>cases a
theorem vN{u:Value}(h:u.oneCell'=true):u.cells= #[u]:=by cases u<;>first|rfl|cases h
theorem bk.cells{w:World}{u:Value}(h:bk β w X v u)(m:v.val=true):
  u.cells.size=v.cs.length/\ ∀(i:Nat) c x,v.cs[i]? =some c->u.cells[i]? =some x->bk β w X c x:=by
 cases v with
 |agg cs=>
  cases h with|agg _ p o h=>exact⟨o,h⟩
 |bH=>cases m
 |cY=>cases m
 |t x=>
  have:=vN (h.iR rfl);rw[this];exact⟨rfl,λi c y k l=>by cases i with|zero=>simp[V.cs] at k l;subst k;subst l;exact h|succ n=>simp[V.cs] at k⟩
 |ref a b=>
  have:=vN (h.iR rfl);rw[this];exact⟨rfl,λi c y k l=>by cases i with|zero=>simp[V.cs] at k l;subst k;subst l;exact h|succ n=>simp[V.cs] at k⟩
 |aL a=>
  have:=vN (h.iR rfl);rw[this];exact⟨rfl,λi c y k l=>by cases i with|zero=>simp[V.cs] at k l;subst k;subst l;exact h|succ n=>simp[V.cs] at k⟩
 |a8 a b c d e=>
  have:=vN (h.iR rfl);rw[this];exact⟨rfl,λi c y k l=>by cases i with|zero=>simp[V.cs] at k l;subst k;subst l;exact h|succ n=>simp[V.cs] at k⟩
 |cw a b c d e=>
  have:=vN (h.iR rfl);rw[this];exact⟨rfl,λi c y k l=>by cases i with|zero=>simp[V.cs] at k l;subst k;subst l;exact h|succ n=>simp[V.cs] at k⟩
 |fn a b=>
  have:=vN (h.iR rfl);rw[this];exact⟨rfl,λi c y k l=>by cases i with|zero=>simp[V.cs] at k l;subst k;subst l;exact h|succ n=>simp[V.cs] at k⟩
def S.new(s:S)(k:Nat)(e:E):S:={t:=s.t,H:=aS s.H k (some e),u:=aS s.u k true}
theorem Rel.I9{K:Ctx}{s:S}{w:World}(h:Rel K β s a w)(k y:Nat)(W:s.u k=false)(f:Array Value)(j:TypeId)(e:E)
  (U: ∀(p:Map) (N:Nat->Prop) (D:World),D=w.alloc (.cells f j)->p k=some (some w.heap.size,y)->(∀v u,bk β w (own K β s.H) v u->bk p D N v u)->(∀b,¬p.n k b)->cC p D N k e):
  Rel K (β.put k (some (some w.heap.size,y))) (s.new k e) a (w.alloc (.cells f j)):=by
 have l: ∀X,Ext X w (w.alloc (.cells f j)):=λX=>Ext.alloc X w _;have A:β k=none:=h.dF _ W;have q: ∀id x,β id=some x->β.put k (some (some w.heap.size,y)) id=some x:=λid x G=>by
  rw[ep _ _ _ _ (by intro e;subst e;rw[A] at G;cases G)];exact G
 have L:=di.of q;have m: ∀id b,At (β.put k (some (some w.heap.size,y))) id b->(id=k/\b=w.heap.size)\/(id≠k/\At β id b):=λid b aY=>by
  by_cases B:id=k
  ·subst B;rcases aY with ⟨g,aY⟩|aY
   ·rw[jf] at aY;cases aY;exact .inl ⟨rfl,rfl⟩
   exact bz aY (h.ea _ _ W)
  refine .inr ⟨B,?_⟩;rcases aY with ⟨g,aY⟩|aY
  ·rw[ep _ _ _ _ B] at aY;exact .inl ⟨g,aY⟩
  exact .inr aY
 have r: ∀b,b<w.heap.size->own K (β.put k (some (some w.heap.size,y))) (aS s.H k (some e)) b->own K β s.H b:=by
  rintro b V (G|⟨id,F,Q⟩)
  ·exact .inl G
  rcases m id b Q with ⟨rfl,rfl⟩|⟨I,C⟩
  ·omega
  rw[bQ _ _ _ _ I] at F;exact .inr ⟨id,F,C⟩
 have R: ∀v u,bk β w (own K β s.H) v u->bk (β.put k (some (some w.heap.size,y))) (w.alloc (.cells f j)) (own K (β.put k (some (some w.heap.size,y))) (aS s.H k (some e))) v u:=
  λv u Y=>Y.mono (l _) r L (qA (l _))
 refine {ext:=h.ext.trans ((l λ_=>False).weaken λ_ _ h=>h.elim),ot:=h.ot,oC:=h.oC,iz:=h.iz,qL:=h.qL,base:= ?_,iT:=h.iT.ext h.ext.size (l _),low:= ?_,dF:= ?_,ea:= ?_,inj:= ?_,fresh:= ?_,heap:= ?_,cW:=λi=>R _ _ (h.cW i),nt:=h.nt,defers:=h.defers}
 ·refine h.base.keep λid hid=>?_
  have:=h.low id hid;rw[ep _ _ _ _ (by intro e;subst e;rw[W] at this;cases this)]
 ·intro id hid;show aS s.u k true id=true;by_cases e:id=k
  ·subst e;exact bP _ _ _
  rw[bQ _ _ _ _ e];exact h.low id hid
 ·intro id hid;have c:aS s.u k true id=false:=hid;by_cases e:id=k
  ·subst e;rw[bP] at c;cases c
  rw[bQ _ _ _ _ e] at c;rw[ep _ _ _ _ e];exact h.dF id c
 ·intro id b hid;have c:aS s.u k true id=false:=hid;by_cases e:id=k
  ·subst e;rw[bP] at c;cases c
  rw[bQ _ _ _ _ e] at c;exact h.ea id b c
 ·intro id M b F Q;rcases m id b F with ⟨rfl,rfl⟩|⟨_,C⟩<;>rcases m M _ Q with ⟨rfl,e⟩|⟨_,T⟩
  ·rfl
  ·have:=(h.fresh _ _ T).2;omega
  ·subst e;have:=(h.fresh _ _ C).2;omega
  exact h.inj _ _ _ C T
 ·intro id b aY;rcases m id b aY with ⟨rfl,rfl⟩|⟨_,C⟩
  ·exact⟨.inr h.ext.size,aP⟩
  exact⟨(h.fresh _ _ C).1,by have:=(h.fresh _ _ C).2;simp;omega⟩
 intro id e' o;have o:aS s.H k (some e) id=some e':=o;show aS s.u k true id=true/\cC _ _ (own K _ (aS s.H k (some e))) id e';by_cases B:id=k
 ·subst B;rw[bP] at o;cases o;exact⟨bP _ _ _,U _ _ _ rfl (jf _ _ _) R λb=>h.ea _ b W⟩
 rw[bQ _ _ _ _ B] at o;obtain⟨F,Q⟩:=h.heap id e' o;exact⟨by rw[bQ _ _ _ _ B];exact F,Q.mono (l _) r L (q id) (qA (l _)) λb aY=>heap_alloc _ _ _ (h.fresh id b aY).2⟩
theorem Rel.new{K:Ctx}{s:S}{w:World}(h:Rel K β s a w)(k m:Nat)(p:s.u k=false)(n:Array Value)(o:TypeId)(e:E)
  (q: ∀(c:Map) (l:Nat->Prop) (i:World),i=w.alloc (.cells n o)->c k=some (some w.heap.size,m)->(∀v u,bk β w (own K β s.H) v u->bk c i l v u)->cC c i l k e):
  Rel K (β.put k (some (some w.heap.size,m))) (s.new k e) a (w.alloc (.cells n o)):=
 h.I9 k m p n o e λc l i r x y _=>q c l i r x y
theorem Rel.CM{K:Ctx}{s:S}{w:World}(h:Rel K β s a w)(k:Nat)(o:s.u k=false)(e:Array Value)(l:TypeId)(m:List V)(p:e.size=m.length)
  (q: ∀(i:Nat) c u,m[i]? =some c->e[i]? =some u->bk β w (own K β s.H) c u):
  Rel K (β.put k (some (some w.heap.size,0))) (s.new k (.cells m)) a (w.alloc (.cells e l)):=
 h.new k 0 o e l _ λr C F x y n=>⟨w.heap.size,e,l,y,by subst x;exact jA _ _,p,λi c u A B=>n _ _ (q i c u A B)⟩
section ops
variable {K:Ctx}{s:S}{d:Option Tmp}{ty:TypeId}{pos:String}{af:Array Edge}{g:Option (Nat×Bool)}
variable {t:TypeId}{u:TypeDesc}{z:Value}{size bytes:Nat}
theorem acC(k:Nat)(e:s.u k=false)(x:Operand)(v:V)(l: ∀i,d=some i->Nat.blt i K.nt=true)(m:s.get x=v)(n:v.val=true):
  dO K ⟨d,.box t x,ty,pos,af,g⟩ s ((s.new k (.cells v.cs)).put d (.ref k 0)):=by
 intro r a w next Q h o
 subst m;obtain⟨p,q⟩:=(h.get x).cells n;unfold Oper.wp;have c:(execOp a.eval ⟨d,.box t x,ty,pos,af,g⟩).run K.P w= .ok (.value (.pointer (some ⟨w.heap.size,0,none⟩))) (w.alloc (.cells (a.eval x).cells t)):=by
  simp[execOp,Instr.box,newVar,newRow]
 rw[c];exact o _ _ _ ((h.CM k e _ t _ p q).put d l (.ref _ _ _ (bP _ _ _)))
theorem aaT(k:Nat)(e:s.u k=false)(l: ∀i,d=some i->Nat.blt i K.nt=true)(m:ca K.P t u z size bytes)(n:(gQ z).val=true):
  dO K ⟨d,.alloc t,ty,pos,af,g⟩ s ((s.new k (.cells (gQ z).cs)).put d (.ref k 0)):=by
 intro h a w next Q o p
 obtain⟨q,r⟩:=(yU h w (own K h s.H) z).cells n;unfold Oper.wp;have c:(execOp a.eval ⟨d,.alloc t,ty,pos,af,g⟩).run K.P w= .ok (.value (.pointer (some ⟨w.heap.size,0,none⟩))) (w.alloc (.cells z.cells t)):=by
  simp[execOp,Instr.alloc,m.tc,newVar,newRow]
 rw[c];exact p _ _ _ ((o.CM k e _ t _ q r).put d l (.ref _ _ _ (bP _ _ _)))
def mP(c:List V)(a:Nat)(e:List V):List V:=c.take a++e++c.drop (a+e.length)
theorem D1{w:World}{a c:Array Value}{e:TypeId}(l:w.heap[b]? =some (.cells a e (0,0)))(i:c.size=a.size)(k:Nat):(w.setRow b c).shape? k=w.shape? k:=by
 by_cases h:k=b
 ·subst h;unfold World.shape?;rw[setRow_heap _ _ _ _ _ _ l,l];simp[i]
 exact yo (setRow_other _ _ _ _ h)
theorem Rel.setRow{K:Ctx}{s:S}{w:World}(h:Rel K β s a w)(m b:Nat)(Q:At β m b)(y:Array Value)(I:TypeId)(R:w.heap[b]? =some (.cells y I (0,0)))(q:Array Value)(A:q.size=y.size)(e:E)(W:s.H m≠none)
  (N:cC β (w.setRow b q) (own K β s.H) m e):Rel K β {s with H:=aS s.H m (some e)} a (w.setRow b q):=by
 have r:own K β s.H b:= .inr ⟨m,W,Q⟩;have p:Ext (own K β s.H) w (w.setRow b q):=⟨rfl,rfl,rfl,aP,λk _ F=>setRow_other _ _ _ _ λe=>F (e▸r)⟩
 have B:Shaped β w (w.setRow b q):=by
  intro l _;by_cases C:l=b
  ·subst C;unfold World.shape?;rw[setRow_heap _ _ _ _ _ _ R,R];simp[A]
  exact yo (setRow_other _ _ _ _ C)
 have o: ∀l,own K β (aS s.H m (some e)) l->own K β s.H l:=by
  rintro l (F|⟨c,G,L⟩)
  ·exact .inl F
  by_cases x:c=m
  ·subst x;exact .inr ⟨c,W,L⟩
  rw[bQ _ _ _ _ x] at G;exact .inr ⟨c,G,L⟩
 have X: ∀v u,bk β w (own K β s.H) v u->bk β (w.setRow b q) (own K β (aS s.H m (some e))) v u:=λv u T=>T.mono p (λl _=>o l) (di.refl _) B;have Y:K.M b\/K.w0.heap.size<=b:=(h.fresh m b Q).1;refine {h with ext:=h.ext.trans' ⟨rfl,rfl,rfl,aP,λk hk F=>setRow_other _ _ _ _ ?_⟩,iT:=λl U=>(D1 R A l).trans (h.iT l U),fresh:= ?_,heap:= ?_,cW:=λi=>X _ _ (h.cW i)}
 ·intro e
  grind
 ·intro c l j;exact⟨(h.fresh c l j).1,by have:=(h.fresh c l j).2;simpa using this⟩
 intro c e' n;have n:aS s.H m (some e) c=some e':=n;show s.u c=true/\cC β (w.setRow b q) (own K β (aS s.H m (some e))) c e';by_cases x:c=m
 ·subst x;rw[bP] at n;cases n;cases D:s.H c with
  |none=>exact bz D W
  |some V=>
   exact⟨(h.heap c V D).1,N.mono (Ext.refl _ _) (λl _=>o l) (di.refl _) (λ_ h=>h) (Shaped.refl _ _) λ_ _=>rfl⟩
 rw[bQ _ _ _ _ x] at n;obtain⟨G,L⟩:=h.heap c e' n;exact⟨G,L.mono p (λl _=>o l) (di.refl _) (λ_ h=>h) B λl f=>setRow_other _ _ _ _ λe=>x (h.inj c m l f (e▸Q))⟩
theorem Lq(e k:List V)(a:Nat)(h:a+k.length<=e.length)(l m:List Value)(p:l.length=e.length)(q:m.length=k.length){R:V->Value->Prop}
  (r: ∀(i:Nat) c u,e[i]? =some c->l[i]? =some u->R c u) (x: ∀(i:Nat) c u,k[i]? =some c->m[i]? =some u->R c u):
  ∀(i:Nat) c u,(mP e a k)[i]? =some c->(l.take a++m++l.drop (a+m.length))[i]? =some u->R c u:=by
 intro i c u o n;simp only[mP,List.getElem?_append,List.length_append,List.length_take,List.getElem?_take,List.getElem?_drop] at o n
 grind
theorem Db{P:Program}(h:ca P t u z size bytes)(w:World)(b o:Nat)(a:Array Value)(c:TypeId)(v:Value)(i:w.heap[b]? =some (.cells a c (0,0)))
  (e:v.cells.size=size) (l:o+size<=a.size) (k: ∀x∈v.cells.toList,x.oneCell'=true):
  (storeVar t ⟨b,o,none⟩ v).run P w= .ok () (w.setRow b (a.toList.take o++v.cells.toList++a.toList.drop (o+v.cells.toList.length)).toArray):=by
 have:=run_storeCells_at P b o c v.cells.toList 0 a w i (by simp[e];omega) k;simp only[storeVar,Sem.run_bind,h.run_sizeOf,Result.andThen_ok,e,ne_eq,not_true,if_false]
 grind
theorem aaR(x y:Operand)(r l:Nat)(A:List V)(v:V)(D:s.get x= .ref r l)(hy:s.get y=v)(I:s.H r=some (.cells A))(fc:ca K.P t u z size bytes)
  (M:v.val=true) (ec:nK v.cs=true) (hs:Nat.beq v.cs.length size=true) (b8:Nat.ble (l+size) A.length=true):
  dO K ⟨none,.store t x y,ty,pos,af,g⟩ s {s with H:=aS s.H r (some (.cells (mP A l v.cs)))}:=by
 intro B a w next Q f hk
 subst hy;have C:=f.get x;rw[D] at C;obtain⟨b,j,N⟩:=rA C;obtain⟨fL,m,o,h1,F,h3,h4⟩:=(f.heap r _ I).2;rw[j] at h1;cases h1;obtain⟨T,c2⟩:=(f.get y).cells M;have U:(a.eval y).cells.size=size:=by rw[T];exact cL hs
 have hle:l+size<=A.length:=dY b8;have G: ∀e∈(a.eval y).cells.toList,e.oneCell'=true:=by
  intro e he;obtain⟨i,aE⟩:=kf.1 he;have L:(a.eval y).cells[i]? =some e:=by simpa using aE
  have R:i<(s.get y).cs.length:=by rw[<-T];exact(js.1 L).1
  exact(c2 i _ e (bo R) L).iR (zz ec (bo R))
 unfold Oper.wp;have W:=Db fc w b l m o (a.eval y) F U O G;have p:(execOp a.eval ⟨none,.store t x y,ty,pos,af,g⟩).run K.P w= .ok .skip (w.setRow b (m.toList.take l++(a.eval y).cells.toList++m.toList.drop (l+(a.eval y).cells.toList.length)).toArray):=by
  simp only[execOp,N,Instr.storeAt,Instr.sureAddr,Sem.run_bind,Sem.run_pure,Result.andThen_ok,W]
 rw[p];have n:(m.toList.take l++(a.eval y).cells.toList++m.toList.drop (l+(a.eval y).cells.toList.length)).length=m.size:=by
  grind
 refine hk B _ _ (Rel.setRow f r b (.inl ⟨_,j⟩) m o F _ (by simpa using n) (.cells (mP A l (s.get y).cs)) (by rw[I];simp) ?_);refine⟨b,_,o,j,setRow_heap _ _ _ _ _ _ F,?_,?_⟩
 ·simp only[List.size_toArray,n,h3];simp[mP]
  grind
 intro i c e bG he;have Y:own K B s.H b:= .inr ⟨r,by rw[I];simp,.inl ⟨_,j⟩⟩;have q: ∀v u,bk B w (own K B s.H) v u->bk B (w.setRow b (m.toList.take l++(a.eval y).cells.toList++m.toList.drop (l+(a.eval y).cells.toList.length)).toArray) (own K B s.H) v u:=by
  intro v u M;refine M.mono ⟨rfl,rfl,rfl,aP,λk _ D=>setRow_other _ _ _ _ λe=>D (e▸Y)⟩ (λ_ _ h=>h) (di.refl _) ?_;intro fL _;by_cases X:fL=b
  ·subst X;unfold World.shape?;rw[setRow_heap _ _ _ _ _ _ F,F]
   grind
  exact yo (setRow_other _ _ _ _ X)
 refine q _ _ (Lq A (s.get y).cs l (by have:=cL hs;omega) m.toList (a.eval y).cells.toList (by simpa using h3) (by simpa using T) (λi c u h5 h6=>h4 i c u h5 (by simpa using h6)) (λi c u h5 h6=>c2 i c u h5 (by simpa using h6)) i c e bG ?_)
 grind
end ops
end
section nT
variable {P:Program}{H:Nat->Option E}{d:Option Tmp}{ty:TypeId}{pos:String}{af:Array Edge}{g:Option (Nat×Bool)}
variable {t:TypeId}{u:TypeDesc}{z:Value}{size bytes:Nat}
theorem acH(x y:Operand)(t c:TypeId)(k:IntKind)(m n:Int):b4 P H ⟨d,.binOp .sub t x y c,ty,pos,af,g⟩ [.t (.int k m),.t (.int k n)] (.t (.int k (k.wrap (m-n)))):=by intro e w X h _ a;refine⟨.int k (k.wrap (m-n)),?_,.t _ _ (.int _ _)⟩;simp[execOp,dy a.1,dy a.2.1,eqGuard,binOp,Op.intArith]
theorem acN(x y:Operand)(t c:TypeId)(k:IntKind)(m n:Int):b4 P H ⟨d,.binOp .mul t x y c,ty,pos,af,g⟩ [.t (.int k m),.t (.int k n)] (.t (.int k (k.wrap (m*n)))):=by intro e w X h _ a;refine⟨.int k (k.wrap (m*n)),?_,.t _ _ (.int _ _)⟩;simp[execOp,dy a.1,dy a.2.1,eqGuard,binOp,Op.intArith]
theorem acJ(x y:Operand)(t c:TypeId)(k:IntKind)(m n:Int)(h:n≠0):b4 P H ⟨d,.binOp .quo t x y c,ty,pos,af,g⟩ [.t (.int k m),.t (.int k n)] (.t (.int k (k.wrap (m.tdiv n)))):=by intro e w X i _ a;refine⟨.int k (k.wrap (m.tdiv n)),?_,.t _ _ (.int _ _)⟩;simp[execOp,dy a.1,dy a.2.1,eqGuard,binOp,Op.intDiv,h]
theorem acI(x y:Operand)(t c:TypeId)(k:IntKind)(m n:Int)(h:n≠0):b4 P H ⟨d,.binOp .rem t x y c,ty,pos,af,g⟩ [.t (.int k m),.t (.int k n)] (.t (.int k (m.tmod n))):=by intro e w X i _ a;refine⟨.int k (m.tmod n),?_,.t _ _ (.int _ _)⟩;simp[execOp,dy a.1,dy a.2.1,eqGuard,binOp,Op.intDiv,h]
theorem acU(x y:Operand)(t c:TypeId)(k:IntKind)(m n:Int):b4 P H ⟨d,.binOp .eql t x y c,ty,pos,af,g⟩ [.t (.int k m),.t (.int k n)] (.t (.bool (decide (m=n)))):=by intro e w X h _ a;refine⟨.bool (decide (m=n)),?_,.t _ _ (.bool _)⟩;simp[execOp,dy a.1,dy a.2.1,eqGuard,binOp,Op.intCmp];rfl
theorem acL(x y:Operand)(t c:TypeId)(k:IntKind)(m n:Int):b4 P H ⟨d,.binOp .neq t x y c,ty,pos,af,g⟩ [.t (.int k m),.t (.int k n)] (.t (.bool (!decide (m=n)))):=by intro e w X h _ a;refine⟨.bool (!decide (m=n)),?_,.t _ _ (.bool _)⟩;simp[execOp,dy a.1,dy a.2.1,eqGuard,binOp,Op.intCmp];rfl
theorem acQ(x y:Operand)(t c:TypeId)(k:IntKind)(m n:Int):b4 P H ⟨d,.binOp .lss t x y c,ty,pos,af,g⟩ [.t (.int k m),.t (.int k n)] (.t (.bool (decide (m<n)))):=by intro e w X h _ a;refine⟨.bool (decide (m<n)),?_,.t _ _ (.bool _)⟩;simp[execOp,dy a.1,dy a.2.1,eqGuard,binOp,Op.intCmp]
theorem acR(x y:Operand)(t c:TypeId)(k:IntKind)(m n:Int):b4 P H ⟨d,.binOp .leq t x y c,ty,pos,af,g⟩ [.t (.int k m),.t (.int k n)] (.t (.bool (decide (m<=n)))):=by intro e w X h _ a;refine⟨.bool (decide (m<=n)),?_,.t _ _ (.bool _)⟩;simp[execOp,dy a.1,dy a.2.1,eqGuard,binOp,Op.intCmp]
theorem acS(x y:Operand)(t c:TypeId)(k:IntKind)(m n:Int):b4 P H ⟨d,.binOp .gtr t x y c,ty,pos,af,g⟩ [.t (.int k m),.t (.int k n)] (.t (.bool (decide (n<m)))):=by intro e w X h _ a;refine⟨.bool (decide (n<m)),?_,.t _ _ (.bool _)⟩;simp[execOp,dy a.1,dy a.2.1,eqGuard,binOp,Op.intCmp]
theorem acT(x y:Operand)(t c:TypeId)(k:IntKind)(m n:Int):b4 P H ⟨d,.binOp .geq t x y c,ty,pos,af,g⟩ [.t (.int k m),.t (.int k n)] (.t (.bool (decide (n<=m)))):=by intro e w X h _ a;refine⟨.bool (decide (n<=m)),?_,.t _ _ (.bool _)⟩;simp[execOp,dy a.1,dy a.2.1,eqGuard,binOp,Op.intCmp]
theorem acV(x y:Operand)(t c:TypeId)(m n:List UInt8)(h:(m.length:Int)+n.length<=9223372036854775807):b4 P H ⟨d,.binOp .add t x y c,ty,pos,af,g⟩ [.t (.str m),.t (.str n)] (.t (.str (m++n))):=by
 intro l w X o _ a;refine⟨.string ⟨(m++n).toArray⟩,?_,.t _ _ (.str _)⟩;have e:(ByteArray.mk m.toArray).size=m.length:=by simp[ByteArray.size]
 have i:(ByteArray.mk n.toArray).size=n.length:=by simp[ByteArray.size]
 have k:(ByteArray.mk m.toArray)++(ByteArray.mk n.toArray)=ByteArray.mk (m++n).toArray:=by
  apply ByteArray.ext;simp
 simp[execOp,hb a.1,hb a.2.1,eqGuard,binOp,Op.stringOp,e,i,k];exact h
theorem abz(x y:Operand)(t c:TypeId)(m n:List UInt8):b4 P H ⟨d,.binOp .eql t x y c,ty,pos,af,g⟩ [.t (.str m),.t (.str n)] (.t (.bool (decide (m=n)))):=by
 intro e w X h _ a;refine⟨.bool (decide (m=n)),?_,.t _ _ (.bool _)⟩;simp[execOp,hb a.1,hb a.2.1,eqGuard,binOp,Op.stringOp]
 grind
theorem abu(x y:Operand)(t c:TypeId)(m n:List UInt8):b4 P H ⟨d,.binOp .neq t x y c,ty,pos,af,g⟩ [.t (.str m),.t (.str n)] (.t (.bool (!decide (m=n)))):=by
 intro e w X h _ a;refine⟨.bool (!decide (m=n)),?_,.t _ _ (.bool _)⟩;simp[execOp,hb a.1,hb a.2.1,eqGuard,binOp,Op.stringOp]
 grind
theorem aby(x y:Operand)(t c:TypeId)(m n:List UInt8):b4 P H ⟨d,.binOp .geq t x y c,ty,pos,af,g⟩ [.t (.str m),.t (.str n)] (.t (.bool (!Op.bytesLess m n))):=by intro e w X h _ a;refine⟨.bool (!Op.bytesLess m n),?_,.t _ _ (.bool _)⟩;simp[execOp,hb a.1,hb a.2.1,eqGuard,binOp,Op.stringOp]
theorem Yo(x y:Operand)(l:List UInt8)(n:Nat)(b:UInt8)(e:P.underlying t=some .string)(h:l[n]? =some b):b4 P H ⟨d,.index t x y,ty,pos,af,g⟩ [.t (.str l),.t (.int .i64 (n:Nat))] (.t (.int .u8 b.toNat)):=by
 intro k w X m _ c;refine⟨.int .u8 b.toNat,?_,.t _ _ (.int _ _)⟩;have i:(ByteArray.mk l.toArray)[n]? =some b:=by
  have a:=(bU.1 h).1;have bL:=(bU.1 h).2;rw[getElem?_pos _ _ (by simpa[ByteArray.size] using a)];simpa[ByteArray.getElem_eq_getElem_data] using bL
 simp[execOp,hb c.1,dy c.2.1,Instr.index,asIntOf,run_underlying e,i]
theorem acK(x:Operand)(t:TypeId)(b:Bool):b4 P H ⟨d,.unOp .not t x,ty,pos,af,g⟩ [.t (.bool b)] (.t (.bool (!b))):=by intro c w X e _ a;refine⟨.bool (!b),?_,.t _ _ (.bool _)⟩;simp[execOp,nA a.1,Op.unary]
theorem SF(w:World)(n:Nat)(a b:Bool)(c:P.underlying t=some .bool):(Op.equalIn (n+1) t (.bool a) (.bool b)).run P w= .ok (a==b) w:=by simp[Op.equalIn,run_underlying c]
theorem J6(w:World)(a b:Bool)(c:P.underlying t=some .bool):(Op.equal t (.bool a) (.bool b)).run P w= .ok (a==b) w:=SF w 9999 a b c
theorem Xy(a b:Bool):binOp .eql t (.bool a) (.bool b)=(do pure (.bool (<-Op.equal t (.bool a) (.bool b)))):=rfl
theorem Xx(a b:Bool):binOp .neq t (.bool a) (.bool b)=(do pure (.bool (!(<-Op.equal t (.bool a) (.bool b))))):=rfl
theorem abp(x y:Operand)(c:TypeId)(m n:Bool)(e:P.underlying t=some .bool):b4 P H ⟨d,.binOp .eql t x y c,ty,pos,af,g⟩ [.t (.bool m),.t (.bool n)] (.t (.bool (m==n))):=by intro h w X i _ a;refine⟨.bool (m==n),?_,.t _ _ (.bool _)⟩;simp[execOp,nA a.1,nA a.2.1,eqGuard,Xy,J6 w m n e]
theorem abo(x y:Operand)(c:TypeId)(m n:Bool)(e:P.underlying t=some .bool):b4 P H ⟨d,.binOp .neq t x y c,ty,pos,af,g⟩ [.t (.bool m),.t (.bool n)] (.t (.bool (!(m==n)))):=by intro h w X i _ a;refine⟨.bool (!(m==n)),?_,.t _ _ (.bool _)⟩;simp[execOp,nA a.1,nA a.2.1,eqGuard,Xx,J6 w m n e]
theorem OD(x:Operand)(a c:TypeId)(k e:IntKind)(h:TypeDesc)(n:Int)(i:P.underlying a=some h)(l:P.underlying c=some (.int e)):b4 P H ⟨d,.convert a c x,ty,pos,af,g⟩ [.t (.int k n)] (.t (.int e (e.wrap n))):=by intro o w X p _ m;refine⟨.int e (e.wrap n),?_,.t _ _ (.int _ _)⟩;simp only[execOp,dy m.1,convert,Sem.run_bind,run_underlying i,run_underlying l,Result.andThen_ok];cases h<;>simp[Conv.intToInt]
theorem X8(x:Operand)(l:List UInt8)(a:P.underlying t=some .string):b4 P H ⟨d,.call {callee:= .builtin .len,args:= #[x],argTypes:= #[t]},ty,pos,af,g⟩ [.t (.str l)] (.t (.int .i64 (l.length:Nat))):=by
 intro k w X c _ e;refine⟨.int .i64 (l.length:Nat),?_,.t _ _ (.int _ _)⟩;have h:c x= .string ⟨l.toArray⟩:=hb e.1;have i:(ByteArray.mk l.toArray).size=l.length:=by simp[ByteArray.size]
 simp[execOp,resolve,invoke,builtin,h,Builtin.len_,run_underlying a,goInt,i]
theorem abL{G:Map}{w:World}{X:Nat->Prop}{c:List (List T)}{u:Value}(h:bk G w X (.t (.aA c)) u): ∃a cap,u= .slice a c.length cap:=by
 cases h with
 |t _ _ h=>cases h with
  |fI a cap=>exact⟨a,cap,rfl⟩
  |aA _ b e size cap=>exact⟨_,cap,rfl⟩
theorem Yq(x:Operand)(e:TypeId)(c:List (List T))(i:P.underlying t=some (.slice e)):b4 P H ⟨d,.call {callee:= .builtin .len,args:= #[x],argTypes:= #[t]},ty,pos,af,g⟩ [.t (.aA c)] (.t (.int .i64 (c.length:Nat))):=by intro n w X k _ l;obtain⟨a,m,h⟩:=abL l.1;refine⟨.int .i64 (c.length:Nat),?_,.t _ _ (.int _ _)⟩;have h:k x=_:=h;simp[execOp,resolve,invoke,builtin,h,Builtin.len_,run_underlying i,goInt]
theorem XL(x:Operand)(e:TypeId)(n gen c i h:Nat)(r:P.underlying t=some (.slice e))(o:TypeId)(k:List (List T))(s:H n=some (.arr o gen c k)):b4 P H ⟨d,.call {callee:= .builtin .len,args:= #[x],argTypes:= #[t]},ty,pos,af,g⟩ [.a8 n gen c i h] (.t (.int .i64 (h:Nat))):=by
 intro y w X p A B;obtain⟨a,cap,l⟩: ∃a cap,p x= .slice a h cap:=by
  have C:bk y w X (.a8 n gen c i h) (p x):=B.1;obtain⟨q,F⟩:=jl (A n _ s);rcases e3 C F with ⟨cap,b,m,G,l,_⟩|⟨_,_,K,l⟩
  ·exact⟨_,_,l⟩
  exact⟨none,0,by rw[K];exact l⟩
 refine⟨.int .i64 (h:Nat),?_,.t _ _ (.int _ _)⟩;simp[execOp,resolve,invoke,builtin,l,Builtin.len_,run_underlying r,goInt]
theorem XM(x:Operand)(a:List V)(k:Nat)(v:V)(h:a[k]? =some v):b4 P H ⟨d,.extract x k,ty,pos,af,g⟩ [.bH a] v:=by
 intro m w X e _ n;have i:bk m w X (.bH a) (e x):=n.1;generalize o:e x=y at i;cases i with
 |bH _ c p q=>
  have l:k<c.size:=by rw[p];exact(bU.1 h).1
  refine⟨c[k],?_,q k v c[k] h (by simp[l])⟩;simp[execOp,o,Instr.extract,l]
theorem K9(x:Operand)(v:V)(a:(match v with| .ref _ _=>true| .aL _=>true|_=>false)=true):b4 P H ⟨d,.nilCheck x,ty,pos,af,g⟩ [v] v:=by
 intro i w X c _ k;have e:bk i w X v (c x):=k.1;refine⟨c x,?_,e⟩;generalize h:c x=y at e;cases e with
 |ref=>simp[execOp,h]
 |aL=>simp[execOp,h]
 |cw=>cases a
 |lD=>cases a
 |k7=>cases a
 |t=>cases a
 |agg=>cases a
 |bH=>cases a
 |a8=>cases a
 |hi=>cases a
 |fn=>cases a
 |cY=>cases a
theorem dj.ff: ∀{β:Map} {w:World} {X:Nat->Prop} {a:List V} {e:List Value},dj β w X a e->e.length=a.length/\ ∀(i:Nat) c u,a[i]? =some c->e[i]? =some u->bk β w X c u
 |_,_,_,[],[],_=>⟨rfl,λi c u h _=>by simp at h⟩
 |_,_,_,v::a,x::e,h=>by
  obtain⟨m,n⟩:=dj.ff h.2;refine⟨by simp[m],λi c u k l=>?_⟩;cases i with
  |zero=>simp at k l;subst k;subst l;exact h.1
  |succ i=>simp at k l;exact n i c u k l
 |_,_,_,[],_::_,h=>h.elim
 |_,_,_,_::_,[],h=>h.elim
theorem WD(f:FuncId)(a:Array Operand)(e:List V):b4 P H ⟨d,.makeFunc (.func f) #[] a,ty,pos,af,g⟩ e (.fn f e):=by
 intro l w X k _ m;have h:dj l w X e (a.toList.map k):=by simpa[Op.operands] using m
 obtain⟨n,o⟩:=h.ff;exact⟨.func (.func f) #[] (a.map k),by simp[execOp,Instr.makeFunc],.fn f e _ (by simpa using n) λi c u p q=>o i c u p (by simpa using q)⟩
theorem acP(x y:Operand)(a:Array TypeId)(k:IntKind)(m n:Int):b4 P H ⟨d,.call {callee:= .builtin .max,args:= #[x,y],argTypes:=a},ty,pos,af,g⟩ [.t (.int k m),.t (.int k n)] (.t (.int k (max m n))):=by
 intro p w X c _ e;refine⟨.int k (max m n),?_,.t _ _ (.int _ _)⟩;have h:c x= .int k m:=dy e.1;have i:c y= .int k n:=dy e.2.1;have l:(if n>m then n else m)=max m n:=by split<;>omega
 have o: ∀w,(Builtin.max_ a ty #[.int k m,.int k n]).run P w= .ok (.int k (max m n)) w:=by
  intro w;simp only[Builtin.max_,List.foldlM,Builtin.max2,l];rfl
 simp[execOp,resolve,invoke,builtin,h,i,o]
theorem acO(x y:Operand)(a:Array TypeId)(k:IntKind)(m n:Int):b4 P H ⟨d,.call {callee:= .builtin .min,args:= #[x,y],argTypes:=a},ty,pos,af,g⟩ [.t (.int k m),.t (.int k n)] (.t (.int k (min m n))):=by
 intro o w X c _ e;refine⟨.int k (min m n),?_,.t _ _ (.int _ _)⟩;have h:c x= .int k m:=dy e.1;have i:c y= .int k n:=dy e.2.1;have l: ∀w,(Builtin.min_ a ty #[.int k m,.int k n]).run P w= .ok (.int k (min m n)) w:=by
  intro w;simp only[Builtin.min_,List.foldlM,Builtin.min2]
  first|rfl|(rw[show min m n=(if n<m then n else m) from by split<;>omega];rfl)
 simp[execOp,resolve,invoke,builtin,h,i,l]
end nT
section nT
variable {P:Program}{H:Nat->Option E}{d:Option Tmp}{ty:TypeId}{pos:String}{af:Array Edge}{g:Option (Nat×Bool)}
variable {t:TypeId}{u:TypeDesc}{z:Value}{size bytes:Nat}
theorem jD(w:World)(n:Nat)(y:Nat)(c:Go.BoundsCode)(h:n<=y):(Instr.sliceBound (.int .i64 (n:Nat)) y c).run P w= .ok n w:=by
 simp[Instr.sliceBound,asIntOf]
 grind
theorem E5(l:List UInt8)(a b:Nat):(ByteArray.mk l.toArray).extract a b=ByteArray.mk ((l.take b).drop a).toArray:=by
 apply ByteArray.ext;rw[ByteArray.data_extract]
 grind
theorem UU(x:Operand)(h i:Operand)(l:List UInt8)(a b:Nat)(k:P.underlying t=some .string)(m:a<=b)(n:b<=l.length):
  b4 P H ⟨d,.slice t x (some h) (some i) none,ty,pos,af,g⟩ [.t (.str l),.t (.int .i64 (a:Nat)),.t (.int .i64 (b:Nat))] (.t (.str ((l.take b).drop a))):=by
 intro s w X c _ e;refine⟨.string ⟨((l.take b).drop a).toArray⟩,?_,.t _ _ (.str _)⟩;have o:c x=_:=hb e.1;have p:c h=_:=dy e.2.1;have q:c i=_:=dy e.2.2.1;have r:(ByteArray.mk l.toArray).size=l.length:=by simp[ByteArray.size]
 simp[execOp,o,p,q,Instr.sliceAt,Instr.slice,run_underlying k,Instr.sliceBounds,r,jD w b l.length _ n,jD w a b _ m,E5]
theorem SC(x:Operand)(c:Operand)(l:List UInt8)(a:Nat)(i:P.underlying t=some .string)(k:a<=l.length):
  b4 P H ⟨d,.slice t x (some c) none none,ty,pos,af,g⟩ [.t (.str l),.t (.int .i64 (a:Nat))] (.t (.str (l.drop a))):=by
 intro p w X e _ h;refine⟨.string ⟨(l.drop a).toArray⟩,?_,.t _ _ (.str _)⟩;have m:e x=_:=hb h.1;have n:e c=_:=dy h.2.1;have o:(ByteArray.mk l.toArray).size=l.length:=by simp[ByteArray.size]
 simp[execOp,m,n,Instr.sliceAt,Instr.slice,run_underlying i,Instr.sliceBounds,o,jD w a l.length _ k,E5]
theorem SY(x:Operand)(a:Operand)(l:List UInt8)(b:Nat)(h:P.underlying t=some .string)(i:b<=l.length):
  b4 P H ⟨d,.slice t x none (some a) none,ty,pos,af,g⟩ [.t (.str l),.t (.int .i64 (b:Nat))] (.t (.str (l.take b))):=by
 intro o w X c _ e;refine⟨.string ⟨(l.take b).toArray⟩,?_,.t _ _ (.str _)⟩;have k:c x=_:=hb e.1;have m:c a=_:=dy e.2.1;have n:(ByteArray.mk l.toArray).size=l.length:=by simp[ByteArray.size]
 simp[execOp,k,m,Instr.sliceAt,Instr.slice,run_underlying h,Instr.sliceBounds,n,jD w b l.length _ i,E5]
theorem cP.part{w:World}{X:Nat->Prop}{c:List (List T)}{v:Value}(h:cP w X (.aA c) v)(a b size:Nat)(V:a<=b)(B:b<=c.length)(o: ∀m,m∈c->m.length=size):
  ∃p k,v= .slice p c.length k/\c.length<=k/\cP w X (.aA ((c.take b).drop a)) (.slice (if k=a then p else p.map (·.add (a*size))) (b-a) (k-a)):=by
 cases h with
 |fI p k=>
  have R:a=0:=by simp at B;omega
  have C:b=0:=by simp at B;omega
  subst R;subst C;exact⟨p,k,rfl,aP,by simpa using cP.fI _ _⟩
 |aA _ W F l k f C D q r I M=>
  refine⟨_,k,rfl,q,?_⟩;have n:((c.take b).drop a).length=b-a:=bN
  by_cases G:a=b
  ·subst G;rw[show(c.take a).drop a=[] by simp];rw[nM];exact .fI _ _
  have K:c≠[]:=by intro e;subst e;simp at B;omega
  obtain⟨Q,s⟩:=Dw c K;have L:l=size:=by rw[<-r Q s,o Q s]
  subst L;rw[aZ O];simp only[Option.map_some,jg];rw[<-n];refine .aA _ W (F+a*l) l (k-a) (λi j=>f (a+i) j) C D (by rw[n];omega) (λm y=>o m (gb (e6 y))) (λi j N S=>?_) λi j m x A U=>?_
  ·have:=I (a+i) j (by rw[n] at N;omega) S;rw[dG,<-pV] at this;exact this
  refine M (a+i) j m x ?_ U;rw[gy,fS] at A;split at A
  ·exact A
  cases A
theorem S4(x:Operand)(l:Operand)(e:TypeId)(c:List (List T))(a:Nat)(r:P.underlying t=some (.slice e))(s:ca P e u z size bytes)(m:a<=c.length)(k: ∀i,i∈c->i.length=size):
  b4 P H ⟨d,.slice t x (some l) none none,ty,pos,af,g⟩ [.t (.aA c),.t (.int .i64 (a:Nat))] (.t (.aA (c.drop a))):=by
 intro y w X n _ o;have A:n l=_:=dy o.2.1;have B:bk y w X (.t (.aA c)) (n x):=o.1;cases B with
 |t _ _ h=>
  obtain⟨G,C,F,p,q⟩:=h.part a c.length size m (cJ _) k;rw[dz] at q;refine⟨_,?_,.t _ _ q⟩;simp[execOp,F,A,Instr.sliceAt,Instr.slice,run_underlying r,Instr.sliceBounds,jD w a c.length _ m,s.run_sizeOf]
theorem TI(x:Operand)(l:Operand)(e:TypeId)(a:List (List T))(b:Nat)(q:P.underlying t=some (.slice e))(r:ca P e u z size bytes)(s:b<=a.length)(i: ∀c,c∈a->c.length=size):
  b4 P H ⟨d,.slice t x none (some l) none,ty,pos,af,g⟩ [.t (.aA a),.t (.int .i64 (b:Nat))] (.t (.aA (a.take b))):=by
 intro y w X m _ n;have A:m l=_:=dy n.2.1;have B:bk y w X (.t (.aA a)) (m x):=n.1;cases B with
 |t _ _ h=>
  obtain⟨F,k,C,o,p⟩:=h.part 0 b size (Nat.zero_le _) s i;simp only[List.drop_zero] at p;refine⟨_,?_,.t _ _ p⟩;simp[execOp,C,A,Instr.sliceAt,Instr.slice,run_underlying q,Instr.sliceBounds,jD w b k _ O,r.run_sizeOf]
theorem WB(x:Operand)(o p:Operand)(e:TypeId)(c:List (List T))(a b:Nat)(s:P.underlying t=some (.slice e))(y:ca P e u z size bytes)(q:a<=b)(A:b<=c.length)(k: ∀i,i∈c->i.length=size):
  b4 P H ⟨d,.slice t x (some o) (some p) none,ty,pos,af,g⟩ [.t (.aA c),.t (.int .i64 (a:Nat)),.t (.int .i64 (b:Nat))] (.t (.aA ((c.take b).drop a))):=by
 intro B w X l _ m;have C:l o=_:=dy m.2.1;have F:l p=_:=dy m.2.2.1;have G:bk B w X (.t (.aA c)) (l x):=m.1;cases G with
 |t _ _ h=>
  obtain⟨Q,n,K,r,L⟩:=h.part a b size q A k;refine⟨_,?_,.t _ _ L⟩;simp[execOp,K,C,F,Instr.sliceAt,Instr.slice,run_underlying s,Instr.sliceBounds,jD w b n _ O,jD w a b _ q,y.run_sizeOf]
end nT
theorem cP.agL{w:World}{X:Nat->Prop}{a:List (List T)}{e:Option Addr}{n i:Nat}(h:cP w X (.aA a) (.slice e n i))(c:Nat)(p:n<=c):cP w X (.aA a) (.slice e n c):=by
 cases h with
 |fI=>exact .fI _ c
 |aA _ b k size _ f q r o l m s=>exact .aA a b k size c f q r p l m s
theorem UN{P:Program}{H:Nat->Option E}{d:Option Tmp}{ty t:TypeId}{pos:String}{af:Array Edge}{g:Option (Nat×Bool)}{u:TypeDesc}{z:Value}{n i:Nat}(x r s:Operand)(e:TypeId)(a:List (List T))(b:Nat)(C:P.underlying t=some (.slice e))(F:ca P e u z n i)(G:b<=a.length)(l: ∀c,c∈a->c.length=n):
  b4 P H ⟨d,.slice t x none (some r) (some s),ty,pos,af,g⟩ [.t (.aA a),.t (.int .i64 (b:Nat)),.t (.int .i64 (b:Nat))] (.t (.aA (a.take b))):=by
 intro K w X m _ o;have L:m r=_:=dy o.2.1;have Q:m s=_:=dy o.2.2.1;have R:bk K w X (.t (.aA a)) (m x):=o.1;cases R with
 |t _ _ h=>
  obtain⟨y,k,W,A,p⟩:=h.part 0 b n (Nat.zero_le _) G l;simp only[List.drop_zero,Nat.zero_mul,Nat.sub_zero] at p;have q:cP w X (.aA (a.take b)) (.slice (if b=0 then y else y.map (·.add 0)) b b):=by
   by_cases B:b=0
   ·subst B;exact .fI _ _
   rw[aZ (show¬k=0 by omega)] at p;rw[aZ B];exact p.agL b (cJ _)
  refine⟨_,?_,.t _ _ q⟩;simp[execOp,W,L,Q,Instr.sliceAt,Instr.slice,run_underlying C,Instr.sliceBounds,jD w b k _ O,jD w b b _ (Nat.le_refl _),F.run_sizeOf]
section
def p9(h:Map)(w:World)(X:Nat->Prop)(a:List V)(e:List Value):Prop:=e.length=a.length/\ ∀(i:Nat) c u,a[i]? =some c->e[i]? =some u->bk h w X c u
variable {w:World}{X:Nat->Prop}{o:Oper}{vals:List V}{v:V}{n:Nat}
theorem p9.mP{G:Map}{U Y:List V}{a c:List Value}(h:p9 G w X U a)(k:p9 G w X Y c)(e:Nat)(i:e+Y.length<=U.length):
  p9 G w X (mP U e Y) (a.take e++c++a.drop (e+c.length)):=by refine⟨?_,Lq U Y e i a c h.1 k.1 h.2 k.2⟩;have l:=h.1;have eI:=k.1;simp[Lift.mP];omega
theorem Nu: ∀(c:List Value) (k a:Nat) (cells:Array Value),a+k+c.length<=cells.size->
  (c.zipIdx k).foldl (λcs (p:Value×Nat)=>cs.setIfInBounds (a+p.2) p.1) cells=(cells.toList.take (a+k)++c++cells.toList.drop (a+k+c.length)).toArray
 | [],k,a,cells,_=>aP
 |v::c,k,a,cells,h=>by simp only[List.zipIdx_cons,List.foldl_cons];simp only[List.length_cons] at h;rw[Nu c (k+1) a _ bN];have e:=list_seg_step cells.toList (a+k) v c bN;simp only[Array.toList_setIfInBounds,List.length_cons];congr 1
def kM(a:Nat->Option (Nat×Nat))(h:List V):List (Nat×V)->Option (List V)
 | []=>some h
 |(i,v)::c=>match a i with
  |none=>none
  |some (e,size)=>bif v.val&&Nat.beq v.cs.length size&&Nat.ble (e+size) h.length then kM a (mP h e v.cs) c else none
theorem wj{β:Map}{w:World}{X:Nat->Prop}(a:Nat->Option (Nat×Nat)): ∀(is:List Nat) (k:List V) (C:List Value) (cs:List V) (l:Array Value) (n:List V),p9 β w X cs l.toList->dj β w X k C->is.length=k.length->
  kM a cs (is.zip k)=some n-> ∃o,Instr.fill a l (is.zip C)=some o/\p9 β w X n o.toList
 | [],[],[],cs,l,n,h,_,_,m=>by simp[kM] at m;subst m;exact⟨l,rfl,h⟩
 |i::is,v::k,x::C,cs,l,n,h,A,B,m=>by
  simp only[List.zip_cons_cons,kM] at m;cases G:a i with
  |none=>rw[G] at m;cases m
  |some q=>
   obtain⟨e,size⟩:=q;rw[G] at m;simp only[] at m;cases F:(v.val&&Nat.beq v.cs.length size&&Nat.ble (e+size) cs.length) with
   |false=>rw[F] at m;cases m
   |true=>
    rw[F,cond_true] at m;simp only[Bool.and_eq_true] at F;obtain⟨⟨f,cd⟩,b⟩:=F;have cd:=cL cd;have b:=dY b;obtain⟨L,j⟩:=A.1.cells f;have D:l.size=cs.length:=by simpa using h.1
    have Q:p9 β w X v.cs x.cells.toList:=⟨by simpa using L,λi c u R W=>j i c u R (by simpa using W)⟩
    have r:=h.mP Q e O;have y:x.cells.zipIdx.foldl (λcs (p:Value×Nat)=>cs.setIfInBounds (e+p.2) p.1) l=(l.toList.take e++x.cells.toList++l.toList.drop (e+x.cells.toList.length)).toArray:=by
     rw[<-Array.foldl_toList,Array.toList_zipIdx]
     have:=Nu x.cells.toList 0 e l (by simp[L];omega);simpa using this
    obtain⟨o,R,W⟩:=wj a is k C (mP cs e v.cs) (l.toList.take e++x.cells.toList++l.toList.drop (e+x.cells.toList.length)).toArray n (by simpa using r) A.2 (by simpa using B) m;refine⟨o,?_,W⟩;simp only[List.zip_cons_cons,Instr.fill,G];rw[aZ (by simp[L];omega),y];exact R
 | [],_::_,_,_,_,_,_,_,B,_=>by simp at B
 |_::_,[],_,_,_,_,_,_,B,_=>by simp at B
 | [],[],_::_,_,_,_,_,A,_,_=>A.elim
 |_::_,_::_,[],_,_,_,_,A,_,_=>A.elim
theorem vG(c:Operand->Value): ∀a:List (Nat×Operand),a.map (λp=>(p.1,c p.2))=(a.map (·.1)).zip ((a.map (·.2)).map c)
 | []=>rfl
 |p::a=>by simp only[List.map_cons,List.zip_cons_cons,vG c a]
def Bz(P:Program)(H:Nat->Option E)(o:Oper)(a:List V)(v:V):Prop:=
 ∀(c:Map) (w:World) (X:Nat->Prop) (i:Operand->Value),(∀id e,H id=some e->cC c w X id e)->(∀b,X b->b<w.heap.size)->
  dj c w X a (o.op.operands.toList.map i)-> ∃u h,(execOp i o).run P w= .ok (.value u) h/\Ext (λ_=>False) w h/\bk c h X v u
theorem b4.g{P:Program}{H:Nat->Option E}(h:b4 P H o vals v):Bz P H o vals v:=
 λa w X c e _ i=>let ⟨u,k,l⟩:=h a w X c e i;⟨u,w,k,Ext.refl _ _,l⟩
theorem Rel.Jb{K:Ctx}{β:Map}{s:S}{a:Act}(c:Rel K β s a w): ∀b,own K β s.H b->b<w.heap.size:=by
 rintro b (e|⟨id,_,h⟩)
 ·exact l2 (c.iz b e).1 c.ext.size
 exact(c.fresh id b h).2
theorem JT{K:Ctx}{s:S}(n: ∀i,o.dst=some i->Nat.blt i K.nt=true)(p:fh (o.op.operands.toList.map s.get) vals)(h:Bz K.P s.H o vals v):
  dO K o s (s.put o.dst v):=by
 intro l a w next Q k q
 obtain⟨u,r,c,m,x⟩:=h l w (own K l s.H) a.eval (λid e m=>(k.heap id e m).2) k.Jb ((k.oq _).le p);unfold Oper.wp;rw[c];exact q l _ r ((k.grow m).put o.dst n x)
section ops
variable {P:Program}{H:Nat->Option E}{d:Option Tmp}{ty:TypeId}{pos:String}{af:Array Edge}{g:Option (Nat×Bool)}
variable {t:TypeId}{u:TypeDesc}{z:Value}{size bytes:Nat}
theorem Ax(e:Map)(w:World)(X:Nat->Prop)(us:List Value)(n:Nat)(h:us.length=n):p9 e w X (List.replicate n .cY) us:=
 ⟨by simp[h],λi c u a _=>by
  rw[tt] at a;split at a
  ·cases a;exact .cY _
  cases a⟩
theorem aag(k:Array (Nat×Operand))(F:Array Field)(a:Array (Nat×Nat))(h l:List V)(G:ca P t (.struct F) z size bytes)
  (L: ∀w,(F.mapM (m:=Sem) λf:Field=>do pure (f.offset,<-sizeOf f.type)).run P w= .ok a w) (Q:(gQ z).val=true) (n:Nat.beq k.toList.length h.length=true)
  (R:kM (a[·]?) (gQ z).cs ((k.toList.map (·.1)).zip h)=some l):b4 P H ⟨d,.build t k,ty,pos,af,g⟩ h (.agg l):=by
 intro q w X o _ W;have r:dj q w X h ((k.toList.map (·.2)).map o):=by simpa[Op.operands] using W
 obtain⟨b,j⟩:=(yU q w X z).cells Q;obtain⟨y,A,p⟩:=wj (β:=q) (w:=w) (X:=X) (a[·]?) (k.toList.map (·.1)) h _ (gQ z).cs z.cells l ⟨by simpa using b,λi c u A p=>j i c u A (by simpa using p)⟩ r (by simpa using cL n) R;refine⟨.agg y,?_,.agg _ _ (by simpa using p.1) λi c u v D=>p.2 i c u v (by simpa using D)⟩;have B:=vG o k.toList;have C:=L w;simp only[execOp,Instr.build,Sem.run_bind,G.tc,Result.andThen_ok,run_underlying G.1];rw[C];simp only[Result.andThen_ok,Array.toList_map];have e:(k.toList.map λx=>match x with|(i,x)=>(i,o x))=(k.toList.map (·.1)).zip ((k.toList.map (·.2)).map o):=by rw[<-B]
 rw[e,A];rfl
theorem M4(x:Operand)(k:Nat)(C:Array Field)(h:Field)(o:List V)(v:V){a:TypeDesc}{e:Value}{m:Nat}(F:ca P t (.struct C) z size bytes)(G:C[k]? =some h)(l:ca P h.type a e n m)
  (q:(ko a=true/\Nat.ble (h.offset+n) o.length=true/\v= .agg ((o.drop h.offset).take n))\/(ko a=false/\o[h.offset]? =some v)):b4 P H ⟨d,.field t x k,ty,pos,af,g⟩ [.agg o] v:=by
 intro f w X L _ p;have Q:bk f w X (.agg o) (L x):=p.1;generalize R:L x=y at Q;cases Q with
 |agg _ r j W=>
  rcases q with ⟨p,D,rfl⟩|⟨p,q⟩
  ·have I:=dY D;refine⟨.agg (r.extract h.offset (h.offset+n)),?_,.agg _ _ bN λi c u B A=>?_⟩
   ·simp[execOp,R,Instr.field,run_underlying F.1,G,asAgg,part,l.C9,l.run_sizeOf,p]
   have M:i<n:=by
    have:=(bU.1 B).1;simp at this;omega
   rw[List.getElem?_take_of_lt M,gy] at B;refine W (h.offset+i) c u B ?_;rw[Array.getElem?_extract] at A;split at A
   ·exact A
   cases A
  have b:h.offset<r.size:=by rw[j];exact(bU.1 q).1
  refine⟨r[h.offset],?_,W _ v r[h.offset] q (by simp[b])⟩;simp[execOp,R,Instr.field,run_underlying F.1,G,asAgg,part,l.C9,p,b]
theorem Kc(n:Nat)(m:Array (Nat×Operand))(e:TypeId)(k:List V)(a:List (List T))(hu:P.underlying t=some (.slice e))(N:ca P e u z size bytes)(A:Nat.beq m.toList.length k.length=true)
  (cy:Nat.beq a.length n=true) (o: ∀c,c∈a->c.length=size) (B:Nat.ble (n*size) 16777216=true)
  (ik:kM (λi=>some (i*size,size)) (List.replicate (n*size) .cY) ((m.toList.map (·.1)).zip k)=some (a.flatten.map .t)):
  Bz P H ⟨d,.buildSlice t n m,ty,pos,af,g⟩ k (.t (.aA a)):=by
 intro U w X C _ gp fP;have W:=cL cy;have f:dj U w X k ((m.toList.map (·.2)).map C):=by simpa[Op.operands] using fP
 have v:=vG C m.toList;obtain⟨l,p,y⟩:=wj (β:=U) (w:=w) (X:=X) (λi=>some (i*size,size)) (m.toList.map (·.1)) k _ (List.replicate (n*size) .cY)
  ((Array.range (n*size)).map ((if n*size=0 then #[] else z.cells)[· %(if n*size=0 then #[] else z.cells).size]!)) _ (Ax _ _ _ _ _ aP) f (by simpa using cL A) ik
 have F:(execOp C ⟨d,.buildSlice t n m,ty,pos,af,g⟩).run P w= .ok (.value (.slice (some ⟨w.heap.size,0,none⟩) n n)) (w.alloc (.cells l e)):=by
  have Y:(m.toList.map λx=>match x with|(i,x)=>(i,C x))=(m.toList.map (·.1)).zip ((m.toList.map (·.2)).map C):=by rw[<-v]
  have D: ¬(n*size>2^24):=by have:=dY B;omega
  simp only[execOp,Instr.buildSlice,Sem.run_bind,run_underlying hu,Result.andThen_ok,N.run_sizeOf,D,if_false,Array.toList_map];by_cases Q:n*size=0
  ·simp only[Q,if_true] at p;simp only[Q,if_true,Sem.run_pure,Sem.run_bind,Result.andThen_ok];rw[Y,p];rfl
  simp only[Q,if_false] at p;simp only[Q,if_false,Sem.run_pure,Sem.run_bind,N.tc,Result.andThen_ok];rw[Y,p];rfl
 refine⟨_,_,F,Ext.alloc _ _ _,.t _ _ ?_⟩;subst W;have q:l.size=a.flatten.length:=by
  have h:=y.1
  grind
 have I:a.flatten.length=a.length*size:=by
  rw[List.length_flatten]
  have:a.map List.length=List.replicate a.length size:=List.eq_replicate_iff.2 ⟨aP,λb D=>by obtain⟨r,bR,rfl⟩:=ey.1 D;exact o r bR⟩;rw[this];simp
 have G: ∀(a:List (List T)),(∀c,c∈a->c.length=size)-> ∀(i j:Nat) (c:List T) (x:T),a[i]? =some c->c[j]? =some x->a.flatten[i*size+j]? =some x:=by
  intro a;induction a with
  |nil=>intro _ i j c x h _;simp at h
  |cons r a my=>
   intro hs i j c x p y;have bR:=hs r aP;rw[List.flatten_cons];cases i with
   |zero=>
    simp at p;subst p
    have:=(bU.1 y).1;rw[ga,dt,jS this];exact y
   |succ i=>
    simp at p;rw[jt (by rw[bR,dG];omega)];rw[show(i+1)*size+j-r.length=i*size+j by rw[bR,dG];omega];exact my (λc h=>hs c (by simp[h])) i j c x p y
 have L: ∀i j,i<a.length->j<size->i*size+j<l.size:=by
  intro i j aE R;rw[q,I]
  have:(i+1)*size<=a.length*size:=dx _ aE
  grind
 refine .aA a w.heap.size 0 size a.length (λi j=>l.getD (i*size+j) undef) aP (λh=>by have:=gp _ h;omega) (cJ _) o (λi j aE R=>?_) λi j c x M h4=>?_
 ·rw[dt,World.cell?_alloc_new]
  have:=L i j aE R;simp[this]
 have h5:=G a o i j c x M h4;have aE:=(bU.1 M).1;have R:j<size:=by rw[<-o c (bE M)];exact(bU.1 h4).1
 have h6:=L i j aE R;have lL:=y.2 (i*size+j) (.t x) l[i*size+j] (by rw[ev,h5];rfl) (by simp[h6]);cases lL with
 |t _ _ h=>
  have:l.getD (i*size+j) undef=l[i*size+j]:=by simp[h6]
  rw[this];exact h.mono (Ext.alloc X _ _) λ_ _ h=>h
end ops
theorem mF{i j size:Nat}(a:i<n)(c:j<size):i*size+j<n*size:=by
 have:(i+1)*size<=n*size:=dx _ a
 grind
section ops
variable {K:Ctx}{s:S}{d:Option Tmp}{ty:TypeId}{pos:String}{af:Array Edge}{g:Option (Nat×Bool)}
variable {t:TypeId}{u:TypeDesc}{z:Value}{size bytes:Nat}
theorem OI(k:Nat)(hk:s.u k=false)(l c:Operand)(e:TypeId)(m:Nat)(n:List T)(cu: ∀i,d=some i->Nat.blt i K.nt=true)(hu:K.P.underlying t=some (.slice e))(he:ca K.P e u z size bytes)
  (b8:s.get l= .t (.int .i64 (m:Nat))) (bG:s.get c= .t (.int .i64 (m:Nat))) (eD:(gQ z).cs=n.map .t) (G:(gQ z).val=true) (hs:Nat.beq n.length size=true) (p:Nat.blt 0 size=true) (hm:m*bytes<=281474976710656) (Cd:m<=9223372036854775807):
  dO K ⟨d,.makeSlice t l c,ty,pos,af,g⟩ s ((s.new k (.arr e 1 size (List.replicate m n))).put d (.a8 k 1 size 0 m)):=by
 intro L a w next Q b f
 have R:=b.get l;rw[b8] at R;have W:=b.get c;rw[bG] at W;have R:=dy R;have W:=dy W;have q:=cL hs;have hp:0<size:=by simpa[Nat.blt_eq] using p
 obtain⟨c1,c2⟩:=(yU L w (own K L s.H) z).cells G;have r:z.cells.size=size:=by rw[c1,eD];simpa using q
 have A:(execOp a.eval ⟨d,.makeSlice t l c,ty,pos,af,g⟩).run K.P w= .ok (.value (.slice (some ⟨w.heap.size,0,none⟩) m m)) (w.alloc (.cells ((Array.range (m*size)).map (z.cells[· %z.cells.size]!)) e)):=by
  obtain⟨_,i,v,D,I,sw⟩:=he;have aY:(i.bytes:Int)*(m:Int)<=281474976710656:=by
   grind
  have:=run_make (P:=K.P) w t e i z hu v D .i64 .i64 m m O (fT _) aY O;simp only[Int.toNat_natCast,I,madeCells] at this;simp only[execOp,R,W,Sem.run_bind,this,Result.andThen_ok];rfl
 unfold Oper.wp;rw[A];have B:=b.new k 1 hk ((Array.range (m*size)).map (z.cells[· %z.cells.size]!)) e (.arr e 1 size (List.replicate m n)) λβ' h8 w' hw cy M=>⟨cJ _,Or.inr ⟨w.heap.size,_,cy,by subst hw;exact jA _ _,?_,?_,?_⟩⟩
 ·have N:(w.alloc (.cells ((Array.range (m*size)).map (z.cells[· %z.cells.size]!)) e)).heap.size=w.heap.size+1:=World.size_alloc ..;have U:(w.alloc (.cells ((Array.range (m*size)).map (z.cells[· %z.cells.size]!)) e)).shape? w.heap.size=some (e,m*size):=by unfold World.shape?;rw[jA];simp
  have G:bk (L.put k (some (some w.heap.size,1))) (w.alloc (.cells ((Array.range (m*size)).map (z.cells[· %z.cells.size]!)) e)) (own K (L.put k (some (some w.heap.size,1))) (s.new k (.arr e 1 size (List.replicate m n))).H) (.a8 k 1 size 0 m)
    (.slice (some ⟨w.heap.size,0*size,none⟩) m m):= .a8 k 1 size 0 m m w.heap.size (m*size) e (cJ _) (bP _ _ _) (N▸oV _) U (by rw[dt]) (cJ _) (by unfold maxLen;omega)
  rw[ga] at G;exact f _ _ _ (B.put d cu G)
 ·simp
 ·intro V qD
  grind
 intro i j V x y X hj Y;rw[tt] at X;split at X
 ·rename_i aeq;cases X;have o:j<size:=by rw[<-q];exact(bU.1 hj).1
  have C:=mF aeq o;simp only[Array.getElem?_map,Array.getElem?_range,C,if_true,Option.map_some,Option.some.injEq] at Y;have F:(i*size+j)%z.cells.size=j:=by rw[r,Nat.add_comm,Nat.add_mul_mod_self_right,Nat.mod_eq_of_lt o]
  rw[F] at Y;have afm:z.cells[j]? =some y:=by rw[<-Y];rw[getElem!_pos _ _ O];simp[r,o]
  have h3:=c2 j (.t x) y (by rw[eD,ev,hj];rfl) afm;have h4:=M _ _ h3;cases h4 with|t _ _ h=>exact h
 cases X
def Src(w:World)(X:Nat->Prop)(c:Nat)(a:List (List T))(u:Value):Prop:=
 (u= .slice none 0 0/\a=[])\/ ∃(b e l:Nat) (k:List Value),u= .slice (some ⟨b,e,none⟩) a.length l/\k.length=a.length*c/\
  (∀(j:Nat) x,k[j]? =some x->w.cell? ⟨b,e+j,none⟩=some x)/\(∀x,x∈k->x.oneCell'=true)/\
  ∀(i j:Nat) (h:List T) (x:T) (y:Value),a[i]? =some h->h[j]? =some x->k[i*c+j]? =some y->cP w X x y
theorem cP.iR{x:T}{u:Value}(h:cP w X x u):u.oneCell'=true:=by cases h<;>rfl
theorem Fk{N:Map}{size:Nat}{e:List (List T)}{u:Value}(h:bk N w X (.t (.aA e)) u)(G: ∀k,k∈e->k.length=size)(r:0<size):
  Src w X size e u\/(e=[]/\ ∃a l,u= .slice a 0 l):=by
 cases h with
 |t _ _ h=>cases h with
  |fI a l=>exact .inr ⟨rfl,a,l,rfl⟩
  |aA _ b L c l f aY gp D n U I=>
   by_cases A:e=[]
   ·subst A;exact .inr ⟨rfl,_,_,rfl⟩
   obtain⟨M,B⟩:=Dw e A;have Q:c=size:=by rw[<-n M B,G M B]
   subst Q;refine .inl (.inr ⟨b,L,l,(List.range (e.length*c)).map λm=>f (m / c) (m%c),rfl,aP,λj x p=>?_,λx V=>?_,λi j k x y q R F=>?_⟩)
   ·rw[ev] at p;cases o:(List.range (e.length*c))[j]? with
    |none=>rw[o] at p;cases p
    |some W=>
     rw[o] at p;have C:j<e.length*c:=by simpa using (bU.1 o).1
     have v:W=j:=by rw[List.getElem?_range C] at o;cases o;rfl
     subst v;simp at p;rw[<-p]
     have:=U (W / c) (W%c) (by rw[vQ r];exact C) (Nat.mod_lt _ r);rw[pV,Nat.mul_comm,Nat.div_add_mod] at this;exact this
   ·obtain⟨m,hm,rfl⟩:=ey.1 V;have hm:=pU.1 hm;have q:m / c<e.length:=by rw[vQ r];exact hm
    have R:=Nat.mod_lt m r;have F:=n e[m / c] (fJ q);exact(I (m / c) (m%c) e[m / c] (e[m / c])[m%c] (bo q) (bo O)).iR
   have p:j<c:=by rw[<-n k (bE q)];exact(bU.1 R).1
   have aE:=(bU.1 q).1;rw[ev,List.getElem?_range (mF aE p)] at F;simp at F;rw[<-F];have Y:(i*c+j) / c=i:=by rw[Nat.mul_comm,Nat.mul_add_div r,Nat.div_eq_of_lt p,rm]
   rw[Y,Nat.mod_eq_of_lt p];exact I i j k x q R
end ops
end
variable {G β:Map}{k n:Nat}{a:Act}{w:World}
theorem Bi{gen:Nat}(q:Option Nat)(c:Option Nat)(i:1<=gen)(h:G k=some (q,gen)):di G (G.put k (some (c,gen+1))):=by
 intro id l m a;by_cases e:id=k
 ·subst e;rw[h] at a;cases a;exact .inr ⟨i,c,gen+1,jf _ _ _,oV _⟩
 exact .inl (by rw[ep _ _ _ _ e];exact a)
theorem Rel.move{K:Ctx}{s:S}(h:Rel K β s a w)(k:Nat)(A:TypeId)(gen l:Nat)(G:List (List T))(I:s.H k=some (.arr A gen l G))(B:Array Value)(c:List (List T))
  (L:c.length*l<=B.size) (M: ∀n,n∈c->n.length=l) (N: ∀(i j:Nat) (n:List T) (x:T) (u:Value),c[i]? =some n->n[j]? =some x->B[i*l+j]? =some u->cP w (own K β s.H) x u):
  Rel K (β.put k (some (some w.heap.size,gen+1))) {s with H:=aS s.H k (some (.arr A (gen+1) l c))} a (w.alloc (.cells B A)):=by
 have m: ∀X,Ext X w (w.alloc (.cells B A)):=λX=>Ext.alloc X w _;have Q:s.u k=true:=(h.heap k _ I).1;obtain⟨oH,R⟩:=jl (h.heap k _ I).2;have W:=(h.heap k _ I).2.1;have o: ∀id b,At (β.put k (some (some w.heap.size,gen+1))) id b->(id=k/\b=w.heap.size)\/At β id b:=λid b aY=>by
  rcases aY with ⟨g,aY⟩|aY
  ·by_cases q:id=k
   ·subst q;rw[jf] at aY;cases aY;exact .inl ⟨rfl,rfl⟩
   rw[ep _ _ _ _ q] at aY;exact .inr (.inl ⟨g,aY⟩)
  exact .inr (.inr aY)
 have r: ∀b,b<w.heap.size->own K (β.put k (some (some w.heap.size,gen+1))) (aS s.H k (some (.arr A (gen+1) l c))) b->own K β s.H b:=by
  rintro b hlt (P|⟨id,F,f⟩)
  ·exact .inl P
  rcases o id b f with ⟨rfl,rfl⟩|C
  ·omega
  refine .inr ⟨id,λU=>?_,C⟩;by_cases q:id=k
  ·subst q;rw[I] at U;cases U
  rw[bQ _ _ _ _ q] at F;exact F U
 have D:Shaped β w (w.alloc (.cells B A)):=qA (m _);have E:=Bi oH (some w.heap.size) W R;have V: ∀v u,bk β w (own K β s.H) v u->bk (β.put k (some (some w.heap.size,gen+1))) (w.alloc (.cells B A)) (own K (β.put k (some (some w.heap.size,gen+1))) (aS s.H k (some (.arr A (gen+1) l c)))) v u:=
  λv u bL=>bL.mono (m _) r E D
 refine {ext:=h.ext.trans ((m λ_=>False).weaken λ_ _ h=>h.elim),ot:=h.ot,oC:=h.oC,iz:=h.iz,qL:=h.qL,base:= ?_,iT:=h.iT.ext h.ext.size (m _),low:=h.low,dF:= ?_,ea:=λid b hid=>h.ea id b hid,inj:= ?_,fresh:= ?_,heap:= ?_,cW:=λi=>V _ _ (h.cW i),nt:=h.nt,defers:=h.defers}
 ·exact h.base.grow k gen oH (some w.heap.size) R W (jf _ _ _) (λb aY=>by cases aY;exact .inr h.ext.size) λid q=>ep _ _ _ _ q
 ·intro id hid;have y:s.u id=false:=hid;by_cases e:id=k
  ·subst e;rw[Q] at y;cases y
  rw[ep _ _ _ _ e];exact h.dF id y
 ·intro id Y b F f;rcases o id b F with ⟨rfl,rfl⟩|C<;>rcases o Y _ f with ⟨rfl,e⟩|h4
  ·rfl
  ·have:=(h.fresh _ _ h4).2;omega
  ·subst e;have:=(h.fresh _ _ C).2;omega
  exact h.inj _ _ _ C h4
 ·intro id b aY;rcases o id b aY with ⟨rfl,rfl⟩|C
  ·exact⟨.inr h.ext.size,aP⟩
  exact⟨(h.fresh _ _ C).1,by have:=(h.fresh _ _ C).2;simp;omega⟩
 intro id e' p;have p:aS s.H k (some (.arr A (gen+1) l c)) id=some e':=p;show s.u id=true/\cC _ _ (own K _ (aS s.H k (some (.arr A (gen+1) l c)))) id e';by_cases q:id=k
 ·subst q;rw[bP] at p;cases p;refine⟨Q,O,Or.inr ⟨w.heap.size,B,bP _ _ _,jA _ _,L,M,λi j n x u aI a2 a3=>(N i j n x u aI a2 a3).mono (m _) r⟩⟩
 rw[bQ _ _ _ _ q] at p;obtain⟨F,f⟩:=h.heap id e' p;refine⟨F,f.mono (m _) r E (λx P=>by rw[ep _ _ _ _ q];exact P) D λb aY=>heap_alloc _ _ _ (h.fresh id b aY).2⟩
theorem Rel.bump{K:Ctx}{s:S}(h:Rel K β s a w)(k:Nat)(B:TypeId)(gen c:Nat)(l:List (List T))(q:Option Nat)(C:β k=some (q,gen))(R:s.H k=some (.arr B gen c l)):
  Rel K (β.put k (some (q,gen+1))) {s with H:=aS s.H k (some (.arr B (gen+1) c l))} a w:=by
 have F:s.u k=true:=(h.heap k _ R).1;have G:=(h.heap k _ R).2.1;have m: ∀id b,At (β.put k (some (q,gen+1))) id b->At β id b:=λid b aY=>by
  rcases aY with ⟨g,aY⟩|aY
  ·by_cases p:id=k
   ·subst p;rw[jf] at aY;cases aY;exact .inl ⟨gen,C⟩
   rw[ep _ _ _ _ p] at aY;exact .inl ⟨g,aY⟩
  exact .inr aY
 have r: ∀b,own K (β.put k (some (q,gen+1))) (aS s.H k (some (.arr B (gen+1) c l))) b->own K β s.H b:=by
  rintro b (W|⟨id,o,A⟩)
  ·exact .inl W
  refine .inr ⟨id,λX=>?_,m id b A⟩;by_cases p:id=k
  ·subst p;rw[R] at X;cases X
  rw[bQ _ _ _ _ p] at o;exact o X
 have L:=Bi q q G C;refine {h with base:= ?_,dF:= ?_,inj:= ?_,fresh:=λid b aY=>h.fresh id b (m id b aY),heap:= ?_,cW:=λi=>(h.cW i).mono (Ext.refl _ _) (λb _=>r b) L (Shaped.refl _ _)}
 ·exact h.base.grow k gen q q C G (bP _ _ _) (λb aY=> .inl aY) λid p=>ep _ _ _ _ p
 ·intro id hid;have y:s.u id=false:=hid;by_cases e:id=k
  ·subst e;rw[F] at y;cases y
  rw[ep _ _ _ _ e];exact h.dF id y
 ·intro id Q b o A;exact h.inj id Q b (m id b o) (m Q b A)
 intro id e' n;have n:aS s.H k (some (.arr B (gen+1) c l)) id=some e':=n;show s.u id=true/\cC _ _ (own K _ (aS s.H k (some (.arr B (gen+1) c l)))) id e';by_cases p:id=k
 ·subst p;rw[bP] at n;cases n;refine⟨F,O,?_⟩;rcases(h.heap id _ R).2.2 with ⟨o,A⟩|⟨b,v,o,A,D,E,I⟩
  ·rw[C] at o;cases o;exact .inl ⟨bP _ _ _,A⟩
  rw[C] at o;cases o;exact .inr ⟨b,v,bP _ _ _,A,D,E,λi j f x u aI a2 a3=>(I i j f x u aI a2 a3).mono (Ext.refl _ _) λb _=>r b⟩
 rw[bQ _ _ _ _ p] at n;obtain⟨o,A⟩:=h.heap id e' n;exact⟨o,A.mono (Ext.refl _ _) (λb _=>r b) L (λx W=>by rw[ep _ _ _ _ p];exact W) (Shaped.refl _ _) λ_ _=>rfl⟩
theorem wk{K:Ctx}{s:S}(h:Rel K G s a w):Rel K G s a w.drew:=h.grow (Ext.drew _ _)
theorem wg{size:Nat}{rows news:List (List T)}(e o h:List Value)(p:rows.length=n)(q:e.length=n*size)(G:o.length=news.length*size)(B: ∀a,a∈rows->a.length=size)(r: ∀a,a∈news->a.length=size){R:T->Value->Prop}
  (H: ∀(i j:Nat) (a:List T) (x:T) (u:Value),rows[i]? =some a->a[j]? =some x->e[i*size+j]? =some u->R x u)
  (L: ∀(i j:Nat) (a:List T) (x:T) (u:Value),news[i]? =some a->a[j]? =some x->o[i*size+j]? =some u->R x u):
  ∀(i j:Nat) (a:List T) (x:T) (u:Value),(rows++news)[i]? =some a->a[j]? =some x->(e++o++h)[i*size+j]? =some u->R x u:=by
 intro i j a x u k y C;by_cases l:i<rows.length
 ·rw[jS l] at k;have c:j<size:=by rw[<-B a (bE k)];exact(bU.1 y).1
  have m:i*size+j<e.length:=by rw[q,<-p];exact mF l c
  grind
 rw[jt O] at k;have c:j<size:=by rw[<-r a (bE k)];exact(bU.1 y).1
 have w:=(bU.1 k).1;have m:=mF (size:=size) w c;have F:e.length<=i*size+j:=by rw[q,<-p];have:=dx size (O:rows.length<=i);omega
 have A:i*size+j-e.length=(i-rows.length)*size+j:=by rw[q,<-p,Nat.sub_mul];have:=dx size (O:rows.length<=i);omega
 grind
theorem Rel.append{K:Ctx}{s:S}{t e:TypeId}{u:TypeDesc}{z:Value}{gen size I:Nat}(h:Rel K β s a w)(k:Nat)(c l:List (List T))(hk:s.H k=some (.arr e gen size c))(ty:TypeId)
  (hu:K.P.underlying t=some (.slice e)) (he:ca K.P e u z size I) (qE:z.cells.size=size) (hs: ∀m,m∈c->m.length=size) (hs': ∀m,m∈l->m.length=size) (v x:Value) (bL:bk β w (own K β s.H) (.a8 k gen size 0 c.length) v)
  (hx:Src w (own K β s.H) size l x\/(l=[]/\ ∃gf r,x= .slice gf 0 r)) (aY:(c.length+l.length)*I<=140737488355328) (hm:c.length+l.length<=maxLen):
  ∃c9 w' A,(Builtin.append_ #[t,t] ty #[v,x]).run K.P w= .ok c9 w'/\Rel K A {s with H:=aS s.H k (some (.arr e (gen+1) size (c++l)))} a w'/\
   bk A w' (own K A (aS s.H k (some (.arr e (gen+1) size (c++l))))) (.a8 k (gen+1) size 0 (c.length+l.length)) c9:=by
 obtain⟨q,hq⟩:=jl (h.heap k _ hk).2;have iL:=(h.heap k _ hk).2.1;obtain⟨_,i,M,hi2,f,sw⟩:=id he;have hm':c.length+l.length<=9223372036854775807:=by unfold maxLen at hm;omega
 have hE:=(h.heap k _ hk).2.2;have x4: ∀m,m∈c++l->m.length=size:=λm qD=>by
  rcases eh.1 qD with h|h
  ·exact hs m h
  exact hs' m h
 -- nothing is appended
 have W:l=[]-> ∀gf r,x= .slice gf 0 r-> ∃c9 w' A,(Builtin.append_ #[t,t] ty #[v,x]).run K.P w= .ok c9 w'/\Rel K A {s with H:=aS s.H k (some (.arr e (gen+1) size (c++l)))} a w'/\
   bk A w' (own K A (aS s.H k (some (.arr e (gen+1) size (c++l))))) (.a8 k (gen+1) size 0 (c.length+l.length)) c9:=by
  intro cy gf r L;subst cy;subst L;rw[kP];refine⟨v,w,_,?_,h.bump k e gen size c q hq hk,?_⟩
  ·rcases e3 bL hq with ⟨xF,b,n,hn,rfl,Q,hw,F,D,b8,mv⟩|⟨Q,_,_,rfl⟩
   ·cases gf<;>simp[Builtin.append_,run_underlying hu,sizeOf,typeInfo,M,Builtin.lenOf,Builtin.firstCells,b8,storeCells,loadCells,loadCellsFrom]
   cases gf<;>simp[Builtin.append_,run_underlying hu,sizeOf,typeInfo,M,Builtin.lenOf,Builtin.firstCells,loadCells,loadCellsFrom]
  simp only[List.length_nil,Nat.add_zero];rcases e3 bL hq with ⟨xF,b,n,hn,rfl,Q,hw,F,D,b8,mv⟩|⟨Q,_,Io,rfl⟩
  ·subst Q;exact .a8 k (gen+1) size 0 _ xF b n hn O (bP _ _ _) hw F D b8 mv
  subst Q;rw[Io];exact .hi k (gen+1) size O (bP _ _ _)
 rcases hx with (⟨L,D⟩|⟨cd,off,N,B,L,X,x6,k4,hwr⟩)|⟨cy,gf,r,L⟩
 ·exact W D none 0 L
 ·by_cases mw:l=[]
  ·subst mw;exact W rfl _ _ L
  have aeM:0<l.length:=List.length_pos_iff.2 mw;have U: ∀j y,B[j]? =some y->w.cell? ((⟨cd,off,none⟩:Addr).add j)=some y:=λj y hy=>by rw[jg];exact x6 j y hy
  have ky:(c.length+l.length)*i.bytes<=140737488355328:=by rw[sw];exact aY
  -- the rows that lie there
  have finish: ∀(E:List Value) (o:Nat),E.length=c.length*size->c.length+l.length<=o->o<=maxLen->(∀(i j:Nat) (m:List T) (x:T) (u:Value),c[i]? =some m->m[j]? =some x->E[i*size+j]? =some u->cP w (own K β s.H) x u)->
    ∃A,Rel K A {s with H:=aS s.H k (some (.arr e (gen+1) size (c++l)))} a (w.drew.alloc (.cells (E.toArray++B.toArray++Builtin.zeroCells z.cells (o-(c.length+l.length))) e))/\
     bk A (w.drew.alloc (.cells (E.toArray++B.toArray++Builtin.zeroCells z.cells (o-(c.length+l.length))) e)) (own K A (aS s.H k (some (.arr e (gen+1) size (c++l))))) (.a8 k (gen+1) size 0 (c.length+l.length)) (.slice (some ⟨w.heap.size,0,none⟩) (c.length+l.length) o):=by
   intro E o pt V hcm Ix;have Y:(E.toArray++B.toArray++Builtin.zeroCells z.cells (o-(c.length+l.length))).size=o*size:=by
    simp only[Array.size_append,List.size_toArray,size_zeroCells,qE,pt,X,<-Nat.add_mul];congr 1;omega
   have sB:=(wk h).move k e gen size c hk (E.toArray++B.toArray++Builtin.zeroCells z.cells (o-(c.length+l.length))) (c++l)
    (by rw[Y,cV];exact dx _ V) x4
    (λi j m x u aI a2 a3=>wg E B (Builtin.zeroCells z.cells (o-(c.length+l.length))).toList rfl pt X hs hs' (R:=λx u=>cP w.drew (own K β s.H) x u) (λi j m x u cQ cd eO=>(Ix i j m x u cQ cd eO).mono (Ext.drew _ _) λ_ _ h=>h)
     (λi j m x u cQ cd eO=>(hwr i j m x u cQ cd eO).mono (Ext.drew _ _) λ_ _ h=>h) i j m x u aI a2 (by simpa[<-Array.getElem?_toList] using a3))
   refine⟨_,sB,?_⟩;have il:bk (β.put k (some (some w.heap.size,gen+1))) (w.drew.alloc (.cells (E.toArray++B.toArray++Builtin.zeroCells z.cells (o-(c.length+l.length))) e)) (own K (β.put k (some (some w.heap.size,gen+1))) (aS s.H k (some (.arr e (gen+1) size (c++l))))) (.a8 k (gen+1) size 0 (c.length+l.length)) (.slice (some ⟨w.heap.size,0*size,none⟩) (c.length+l.length) o):=by
    have qC:=jA w.drew (.cells (E.toArray++B.toArray++Builtin.zeroCells z.cells (o-(c.length+l.length))) e);refine .a8 k (gen+1) size 0 _ o w.heap.size (o*size) e O (bP _ _ _) aP ?_ (by rw[dt]) V hcm;have Ip:(w.drew.alloc (.cells (E.toArray++B.toArray++Builtin.zeroCells z.cells (o-(c.length+l.length))) e)).heap[w.heap.size]? =some (.cells (E.toArray++B.toArray++Builtin.zeroCells z.cells (o-(c.length+l.length))) e):=qC;unfold World.shape?;rw[Ip];simp only[Y]
   rw[ga] at il;exact il
  subst L;rcases e3 bL hq with ⟨r,b,n,hn,rfl,Q,hw,F,D,b8,mv⟩|⟨Q,_,Il,rfl⟩
  rotate_left
  ·have pr:c=[]:=l1 Il;subst pr;have C:=run_append_nil (P:=K.P) w t ty e i z hu M hi2 ⟨cd,off,none⟩ l.length N B (by rw[f];exact X) U aeM O (by simp at ky;omega);obtain⟨A,f1,f2⟩:=finish [] (grownCap w l.length 0 e) aP (by simpa using grownCap_ge w l.length 0 e) (grownCap_le_maxLen w _ 0 e (by unfold maxLen;simp at hm';omega)) λi j m x u h1 _ _=>by simp at h1
   simp only[List.length_nil,Nat.zero_add] at f1 f2⊢;exact⟨_,_,A,by rw[C];simp,f1,f2⟩
  subst Q;rcases hE with ⟨g1,_⟩|⟨fL,p,g1,g2,g3,g4,g5⟩
  ·rw[hq] at g1;cases g1
  rw[hq] at g1;cases g1;have k0:p.size=r*size:=by
   unfold World.shape? at F;rw[g2] at F;simp at F;rw[<-D] at F;rw[dt] at F;exact F.2
  have sG:(p.toList.take (c.length*size)).length=c.length*size:=bN
  have lP: ∀(i j:Nat) (m:List T) (x:T) (u:Value),c[i]? =some m->m[j]? =some x->(p.toList.take (c.length*size))[i*size+j]? =some u->cP w (own K β s.H) x u:=by
   intro i j m x u h1 h2 h3;rw[fS] at h3;split at h3
   ·exact g5 i j m x u h1 h2 (by simpa using h3)
   cases h3
  simp only[Nat.zero_mul];by_cases G:c.length+l.length<=r
  ·have nx:c.length*size+B.length<=p.size:=by rw[X,k0,<-dG];exact dx _ G
   have C:=run_append_room (P:=K.P) w t ty e i hu M b c.length r p g2 ⟨cd,off,none⟩ l.length N B (by rw[f];exact X) U k4 G (by rw[f];exact nx);rw[f] at C;have uS:(p.toList.take (c.length*size)++B++p.toList.drop (c.length*size+B.length)).toArray.size=p.size:=by
    simp;omega
   have hrel:=h.setRow k b (.inl ⟨_,hq⟩) p e g2 (p.toList.take (c.length*size)++B++p.toList.drop (c.length*size+B.length)).toArray uS (.arr e gen size (c++l)) (by rw[hk];simp)
    ⟨iL,Or.inr ⟨b,_,hq,setRow_heap _ _ _ _ _ _ g2,by rw[uS,k0,cV];exact dx _ G,x4,
     λi j m x u aI a2 a3=>by
      have h9:=wg (p.toList.take (c.length*size)) B (p.toList.drop (c.length*size+B.length)) rfl sG X hs hs' (R:=λx u=>cP w (own K β s.H) x u) lP hwr i j m x u aI a2 (by simpa using a3);refine h9.mono ⟨rfl,rfl,rfl,aP,λkk _ hx=>setRow_other _ _ _ _ λe0=>hx ?_⟩ λ_ _ h=>h;subst e0;exact .inr ⟨k,by rw[hk];simp,.inl ⟨_,hq⟩⟩⟩⟩
   have x1:=hrel.bump k e gen size (c++l) (some b) hq (bP _ _ _);have xP:aS (aS s.H k (some (.arr e gen size (c++l)))) k (some (.arr e (gen+1) size (c++l)))=aS s.H k (some (.arr e (gen+1) size (c++l))):=by
    funext j;by_cases hj:j=k
    ·subst hj;rw[bP,bP]
    rw[bQ _ _ _ _ hj,bQ _ _ _ _ hj,bQ _ _ _ _ hj]
   simp only[xP] at x1;refine⟨_,_,_,C,x1,?_⟩;have il:bk (β.put k (some (some b,gen+1))) (w.setRow b (p.toList.take (c.length*size)++B++p.toList.drop (c.length*size+B.length)).toArray) (own K (β.put k (some (some b,gen+1))) (aS s.H k (some (.arr e (gen+1) size (c++l))))) (.a8 k (gen+1) size 0 (c.length+l.length)) (.slice (some ⟨b,0*size,none⟩) (c.length+l.length) r):=by
    refine .a8 k (gen+1) size 0 _ r b (r*size) e O (bP _ _ _) (by simpa using hw) ?_ (by rw[dt]) G mv;unfold World.shape?;rw[setRow_heap _ _ _ _ _ _ g2];simp only[uS,k0]
   rw[ga] at il;exact il
  have holds: ∀j u,(p.toList.take (c.length*size))[j]? =some u->w.cell? ((⟨b,0,none⟩:Addr).add j)=some u:=by
   intro j u hj;rw[jg,dt];rw[fS] at hj;split at hj
   ·simp only[World.cell?,g2];simpa using hj
   cases hj
  have C:=run_append_grow (P:=K.P) w t ty e i z hu M hi2 ⟨b,0,none⟩ c.length r (p.toList.take (c.length*size)) (by rw[f];exact sG) holds ⟨cd,off,none⟩ l.length N B (by rw[f];exact X) U O O (growslice_fits O ky);obtain⟨A,f1,f2⟩:=finish (p.toList.take (c.length*size)) (grownCap w (c.length+l.length) r e) sG (grownCap_ge w _ r e) (grownCap_le_maxLen w _ r e hm) lP;exact⟨_,_,A,C,f1,f2⟩
 exact W cy gf r L
section ops
variable {K:Ctx}{s:S}{d:Option Tmp}{ty:TypeId}{pos:String}{af:Array Edge}{g:Option (Nat×Bool)}
variable {t:TypeId}{u:TypeDesc}{z:Value}{gen size bytes:Nat}
def Rows(size:Nat)(rows:List (List T)):Prop:= ∀a,a∈rows->a.length=size
theorem Rows.nil(size:Nat):Rows size []:=λ_ h=>by simp at h
theorem Rows.map{a:Type}{size:Nat}{f:a->List T}(l:List a)(h: ∀x,(f x).length=size):Rows size (l.map f):=λc e=>by obtain⟨x,_,rfl⟩:=ey.1 e;exact h x
theorem YW(k:Nat)(x y:Operand)(e:TypeId)(c h:List (List T))(C: ∀i,d=some i->Nat.blt i K.nt=true)(F:s.get x= .a8 k gen size 0 c.length)(G:dv (s.get y) (.t (.aA h)))(L:s.H k=some (.arr e gen size c))
  (R:K.P.underlying t=some (.slice e)) (W:ca K.P e u z size bytes) (o:Nat.beq z.cells.size size=true) (X:Nat.blt 0 size=true) (b:Rows size c) (l:Rows size h)
  (f:(c.length+h.length)*bytes<=140737488355328) (I:c.length+h.length<=9223372036854775807):
  dO K ⟨d,.call {callee:= .builtin .append,args:= #[x,y],argTypes:= #[t,t]},ty,pos,af,g⟩ s
   (({s with H:=aS s.H k (some (.arr e (gen+1) size (c++h)))}:S).put d (.a8 k (gen+1) size 0 (c.length+h.length))):=by
 intro M a w next Q p q
 have m:=p.get x;rw[F] at m;have r:=G _ _ _ _ (p.get y);have A:0<size:=by simpa[Nat.blt_eq] using X
 obtain⟨j,w',B,v,D,E⟩:=p.append k c h L ty R W (cL o) b l _ _ m (Fk r l A) f (by unfold maxLen;omega);unfold Oper.wp;have n:(execOp a.eval ⟨d,.call {callee:= .builtin .append,args:= #[x,y],argTypes:= #[t,t]},ty,pos,af,g⟩).run K.P w= .ok (.value j) w':=by
  simp[execOp,resolve,invoke,builtin,v]
 rw[n];exact q B _ w' (D.put d C E)
theorem ML(R:Nat->V)(k:Nat)(e:TypeId)(G:s.u k=false)(n: ∀(i q:Map) (w:World) (X W:Nat->Prop) (j:Nat) (u:Value),q k=some (none,1)->(∀v u,bk i w X v u->bk q w W v u)->bk i w X (s.t j) u->bk q w W (R j) u):
  s.le K {t:=R,H:=aS s.H k (some (.arr e 1 size [])),u:=aS s.u k true}:=by
 intro i a w h;have r:i k=none:=h.dF _ G;have o: ∀id x,i id=some x->i.put k (some (none,1)) id=some x:=λid x A=>by
  rw[ep _ _ _ _ (by intro e;subst e;rw[r] at A;cases A)];exact A
 have B:=di.of o;have l: ∀id b,At (i.put k (some (none,1))) id b->id≠k/\At i id b:=λid b aY=>by
  by_cases n:id=k
  ·subst n;rcases aY with ⟨g,aY⟩|aY
   ·rw[jf] at aY;cases aY
   exact bz aY (h.ea _ _ G)
  refine⟨n,?_⟩;rcases aY with ⟨g,aY⟩|aY
  ·rw[ep _ _ _ _ n] at aY;exact .inl ⟨g,aY⟩
  exact .inr aY
 have p: ∀b,own K (i.put k (some (none,1))) (aS s.H k (some (.arr e 1 size []))) b->own K i s.H b:=by
  rintro b (A|⟨id,y,C⟩)
  ·exact .inl A
  obtain⟨L,f⟩:=l id b C;rw[bQ _ _ _ _ L] at y;exact .inr ⟨id,y,f⟩
 have Q: ∀v u,bk i w (own K i s.H) v u->bk (i.put k (some (none,1))) w (own K (i.put k (some (none,1))) (aS s.H k (some (.arr e 1 size [])))) v u:=
  λv u D=>D.mono (Ext.refl _ _) (λb _=>p b) B (Shaped.refl _ _)
 refine⟨i.put k (some (none,1)),{h with base:= ?_,low:= ?_,dF:= ?_,ea:= ?_,inj:= ?_,fresh:= ?_,heap:= ?_,cW:= ?_}⟩
 ·refine h.base.keep λid hid=>?_
  have:=h.low id hid;rw[ep _ _ _ _ (by intro e;subst e;rw[G] at this;cases this)]
 ·intro id hid;show aS s.u k true id=true;by_cases e:id=k
  ·subst e;exact bP _ _ _
  rw[bQ _ _ _ _ e];exact h.low id hid
 ·intro id hid;have c:aS s.u k true id=false:=hid;by_cases e:id=k
  ·subst e;rw[bP] at c;cases c
  rw[bQ _ _ _ _ e] at c;rw[ep _ _ _ _ e];exact h.dF id c
 ·intro id b hid;have c:aS s.u k true id=false:=hid;by_cases e:id=k
  ·subst e;rw[bP] at c;cases c
  rw[bQ _ _ _ _ e] at c;exact h.ea id b c
 ·intro id F b y C;exact h.inj id F b (l id b y).2 (l F b C).2
 ·intro id b aY;exact h.fresh id b (l id b aY).2
 ·intro id e' m;have m:aS s.H k (some (.arr e 1 size [])) id=some e':=m;show aS s.u k true id=true/\cC _ _ (own K _ (aS s.H k (some (.arr e 1 size [])))) id e';by_cases n:id=k
  ·subst n;rw[bP] at m;cases m;exact⟨bP _ _ _,cJ _,Or.inl ⟨bP _ _ _,rfl⟩⟩
  rw[bQ _ _ _ _ n] at m;obtain⟨y,C⟩:=h.heap id e' m;exact⟨by rw[bQ _ _ _ _ n];exact y,C.mono (Ext.refl _ _) (λb _=>p b) B (o id) (Shaped.refl _ _) λ_ _=>rfl⟩
 intro j;exact n i _ w _ _ j _ (bP _ _ _) Q (h.cW j)
theorem N1{T:Map}{X A:Nat->Prop}{u:Value}(a:G k=some (none,1))(h:bk T w X (.t .fe) u):bk G w A (.a8 k 1 n 0 0) u:=by
 cases h with
 |t _ _ c=>cases c;exact .hi k 1 n (cJ _) a
theorem aax(i k:Nat)(e:TypeId)(l:s.u k=false)(m:s.t i= .t .fe):s.le K {t:=aS s.t i (.a8 k 1 size 0 0),H:=aS s.H k (some (.arr e 1 size [])),u:=aS s.u k true}:=
 ML _ k e l (λp n w X q j u o a h=>by
  by_cases c:j=i
  ·subst c;rw[bP];rw[m] at h;exact N1 o h
  rw[bQ _ _ _ _ c];exact a _ _ h)
theorem Yl(i j k:Nat)(e:TypeId){U:List V}(r:s.u k=false)(x:s.t i= .agg U)(o:U[j]? =some (.t .fe)):s.le K {t:=aS s.t i (.agg (U.set j (.a8 k 1 size 0 0))),H:=aS s.H k (some (.arr e 1 size [])),u:=aS s.u k true}:=
 ML _ k e r (λG y w X L A u B a h=>by
  by_cases l:A=i
  ·subst l;rw[bP];rw[x] at h;cases h with|agg _ C F p=>
   refine .agg _ C (by simpa using F) λi c u n q=>?_;by_cases m:i=j
   ·subst m;rw[jr (bU.1 o).1] at n;cases n;exact N1 B (p i _ u o q)
   rw[lg (lk m)] at n;exact a _ _ (p i c u n q)
  rw[bQ _ _ _ _ l];exact a _ _ h)
theorem KB(X:Nat->V)(k:Nat)(e:TypeId)(c:List (List T))(f:Nat.ble K.c6 k=true)(aE: ∀i,X i=s.t i\/(X i= .t (.aA c)/\s.t i= .a8 k gen size 0 c.length))(v:s.H k=some (.arr e gen size c)):
  s.le K {t:=X,H:=aS s.H k none,u:=s.u}:=by
 intro B a w h;have Y:=dY f;obtain⟨q,C⟩:=jl (h.heap k _ v).2;have iL:=(h.heap k _ v).2.1;have p: ∀b,own K B (aS s.H k none) b->own K B s.H b:=by
  rintro b (D|⟨id,l,F⟩)
  ·exact .inl D
  by_cases hid:id=k
  ·subst hid;rw[bP] at l;exact bz rfl l
  rw[bQ _ _ _ _ hid] at l;exact .inr ⟨id,l,F⟩
 have G: ∀b,q=some b-> ¬own K B (aS s.H k none) b:=by
  rintro b N (D|⟨id,l,F⟩)
  ·subst N;obtain⟨e5,hz⟩:=h.iz b D;rcases(h.fresh k b (.inl ⟨_,C⟩)).1 with r|ji
   ·exact hz r
   omega
  subst N
  have:=h.inj _ _ _ F (.inl ⟨_,C⟩);subst this;rw[bP] at l;exact l rfl
 refine⟨B,{h with heap:= ?_,cW:= ?_}⟩
 ·intro id e' m;have m:aS s.H k none id=some e':=m;by_cases hid:id=k
  ·subst hid;rw[bP] at m;cases m
  rw[bQ _ _ _ _ hid] at m;obtain⟨l,F⟩:=h.heap id e' m;exact⟨l,F.mono (Ext.refl _ _) (λb _=>p b) (di.refl _) (λ_ h=>h) (Shaped.refl _ _) λ_ _=>rfl⟩
 intro j;show bk B w _ (X j) _;rcases aE j with A|⟨A,aE⟩
 rotate_left
 ·rw[A];have l:=h.cW j;rw[aE] at l;generalize a.tmps.getD j undef=y at l;rcases e3 l C with ⟨E,b,n,hn,rfl,L,hw,gq,sD,b8,mv⟩|⟨L,_,I,rfl⟩
  ·subst L;rcases(h.heap k _ v).2.2 with ⟨Q,_⟩|⟨fL,o,Q,g2,g3,P,g5⟩
   ·rw[C] at Q;cases Q
   rw[C] at Q;cases Q;rw[ga];refine .t _ _ (.aA c b 0 size E (λi j=>o.getD (i*size+j) undef) hw (G b rfl) b8 P (λi j aE A=>?_) λi j R x M U=>?_)
   ·have W:=mF (size:=size) aE A
    have:i*size+j<o.size:=O
    simp[World.cell?,g2,this]
   have aE:=(bU.1 M).1;have A:j<size:=by rw[<-P R (bE M)];exact(bU.1 U).1
   have W:=mF (size:=size) aE A;have r:i*size+j<o.size:=O
   have h6:=g5 i j R x o[i*size+j] M U (by simp[r])
   have:o.getD (i*size+j) undef=o[i*size+j]:=by simp[r]
   rw[this];exact h6.mono (Ext.refl _ _) λb _=>p b
  have:c=[]:=l1 I;subst this;exact .t _ _ (.fI _ _)
 rw[A];exact(h.cW j).mono (Ext.refl _ _) (λb _=>p b) (di.refl _) (Shaped.refl _ _)
theorem Wz(i k:Nat)(e:TypeId)(a:List (List T))(c:Nat.ble K.c6 k=true)(l:s.t i= .a8 k gen size 0 a.length)(m:s.H k=some (.arr e gen size a)):
  s.le K {t:=aS s.t i (.t (.aA a)),H:=aS s.H k none,u:=s.u}:=
 KB _ k e a c (λj=>by
  by_cases h:j=i
  ·subst h;exact .inr ⟨bP _ _ _,l⟩
  exact .inl (bQ _ _ _ _ h)) m
theorem Xe(x y:Operand)(C i c:Nat)(e:TypeId)(o:List (List T))(l:List T)(m:List T)(hx:s.get x= .cw C gen size i c){v:V}(hle:dv (s.get y) v)(hy:v.cs=m.map .t)(lQ:v.val=true)(f:s.H C=some (.arr e gen size o)){A:Nat}(fc:ca K.P t u z A bytes)
  (B:o[i]? =some l) (hs:m.length=A) (b8:c+A<=size):
  dO K ⟨none,.store t x y,ty,pos,af,g⟩ s {s with H:=aS s.H C (some (.arr e gen size (o.set i (l.take c++m++l.drop (c+m.length)))))}:=by
 intro β a w next Q W hk
 have D:=W.get x;rw[hx] at D;obtain⟨q,hq⟩:=jl (W.heap C _ f).2;obtain⟨b,jG,sK⟩:=oG D hq;subst jG;have aY:=hq;have aE:=(bU.1 B).1;rcases(W.heap C _ f).2.2 with ⟨_,E⟩|⟨fL,p,h1,E,h3,h4,h5⟩
 ·rw[E] at aE;simp at aE
 rw[aY] at h1;cases h1;obtain⟨c1,c2⟩:=(hle _ _ _ _ (W.get y)).cells lQ;rw[hy] at c1 c2;have I:(a.eval y).cells.size=A:=by rw[c1];simpa using hs
 have hrl:l.length=size:=h4 l (bE B);have ahw:i*size+size<=p.size:=by
  have:(i+1)*size<=o.length*size:=dx _ aE;rw[dG] at this;omega
 have M: ∀e∈(a.eval y).cells.toList,e.oneCell'=true:=by
  intro e he;obtain⟨j,hj⟩:=kf.1 he;have N:(a.eval y).cells[j]? =some e:=by simpa using hj
  have U:j<m.length:=by have:=(js.1 N).1;rw[c1] at this;simpa using this
  exact(c2 j (.t m[j]) e (by simp[U]) N).iR rfl
 unfold Oper.wp;have Y:=Db fc w b (i*size+c) p e (a.eval y) E I O M;have L:(execOp a.eval ⟨none,.store t x y,ty,pos,af,g⟩).run K.P w= .ok .skip (w.setRow b (p.toList.take (i*size+c)++(a.eval y).cells.toList++p.toList.drop (i*size+c+(a.eval y).cells.toList.length)).toArray):=by
  simp only[execOp,sK,Instr.storeAt,Instr.sureAddr,Sem.run_bind,Sem.run_pure,Result.andThen_ok,Y]
 rw[L];have ov:(a.eval y).cells.toList.length=m.length:=by simp[c1]
 have F:(p.toList.take (i*size+c)++(a.eval y).cells.toList++p.toList.drop (i*size+c+(a.eval y).cells.toList.length)).length=p.size:=by
  simp[I];omega
 refine hk β _ _ (Rel.setRow W C b (.inl ⟨_,aY⟩) p e E _ (by simpa using F) (.arr e gen size (o.set i (l.take c++m++l.drop (c+m.length)))) (by rw[f];simp) ?_);have hb':own K β s.H b:= .inr ⟨C,by rw[f];simp,.inl ⟨_,aY⟩⟩;have R: ∀x u,cP w (own K β s.H) x u->cP (w.setRow b (p.toList.take (i*size+c)++(a.eval y).cells.toList++p.toList.drop (i*size+c+(a.eval y).cells.toList.length)).toArray) (own K β s.H) x u:=by
  intro v u bL;exact bL.mono ⟨rfl,rfl,rfl,aP,λk _ hx=>setRow_other _ _ _ _ λe=>hx (e▸hb')⟩ λ_ _ h=>h
 have Qt:(l.take c++m++l.drop (c+m.length)).length=size:=bN
 refine⟨(W.heap C _ f).2.1,Or.inr ⟨b,_,aY,setRow_heap _ _ _ _ _ _ E,?_,?_,?_⟩⟩
 ·simp only[List.size_toArray,F,List.length_set];exact h3
 ·intro r ae0;rcases vU ae0 with h|h
  ·exact h4 r h
  rw[h];exact Qt
 intro n j G ix X aI a2 a3;apply R;have a3:(p.toList.take (i*size+c)++(a.eval y).cells.toList++p.toList.drop (i*size+c+(a.eval y).cells.toList.length))[n*size+j]? =some X:=by simpa using a3
 simp only[List.getElem?_append,List.length_append,List.length_take,List.getElem?_take,List.getElem?_drop,Array.length_toList] at a3;rw[show min (i*size+c) p.size=i*size+c by omega,show(a.eval y).cells.size=m.length by simpa using ov] at a3;by_cases xX:n=i
 ·subst xX;rw[jr aE] at aI;cases aI;have hjs:j<size:=by rw[<-Qt];exact(bU.1 a2).1
  simp only[List.getElem?_append,List.length_append,List.length_take,List.getElem?_take,List.getElem?_drop,hrl] at a2;rw[show min c size=c by omega] at a2;by_cases cQ:j<c
  ·rw[a1 O,a1 cQ,a1 cQ] at a2;rw[a1 O,a1 O,a1 O] at a3;exact h5 n j l ix X B a2 (by simpa using a3)
  by_cases cd:j<c+m.length
  ·rw[a1 O,aZ cQ] at a2;rw[a1 O,aZ O] at a3;rw[show n*size+j-(n*size+c)=j-c by omega] at a3;have h9:=c2 (j-c) (.t ix) X (by rw[ev,a2];rfl) (by simpa using a3);cases h9 with|t _ _ h=>exact h
  rw[aZ O] at a2;rw[aZ O] at a3;rw[show c+m.length+(j-(c+m.length))=j by omega] at a2;rw[show n*size+c+m.length+(n*size+j-(n*size+c+m.length))=n*size+j by omega] at a3;exact h5 n j l ix X B a2 (by simpa using a3)
 rw[lg (lk xX)] at aI;have hjs:j<size:=by rw[<-h4 G (bE aI)];exact(bU.1 a2).1
 have hold:p[n*size+j]? =some X:=by
  rcases Nat.lt_or_ge n i with U|ji
  ·have:n*size+size<=i*size:=by have:=dx size (O:n+1<=i);rw[dG] at this;omega
   rw[a1 O,a1 O,a1 O] at a3;simpa using a3
  have:i*size+size<=n*size:=by have:=dx size (O:i+1<=n);rw[dG] at this;omega
  rw[aZ O] at a3;rw[show i*size+c+m.length+(n*size+j-(i*size+c+m.length))=n*size+j by omega] at a3;simpa using a3
 exact h5 n j G ix X aI a2 hold
end ops
end Go.Lift
