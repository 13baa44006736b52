/- Tools. -/
import Derived.Tactics
import Derived.Deep.Quiet
import Derived.Laws.World
import Derived.Laws.Sem
import Derived.WalkKit
namespace Go.Lift
open Go
abbrev bx:=@decide_eq_false
abbrev bA:=@decide_eq_true
abbrev a1.{u}:=@if_pos.{u}
abbrev aY.{u}:=@if_neg.{u}
abbrev bB.{u}:=@absurd.{u}
abbrev e8:=@of_decide_eq_true
section
variable {p:Prop}{X Y:Nat->Prop}{a b c w w':World}{v u:Value}{m:Option Nat}{i j k n sz:Nat}
theorem O(h:p:=by omega):p:=h
theorem Z(h:p:=by dsimp only;omega):p:=h
theorem J(h:p:=by kernel_rfl):p:=h
theorem aV(h:p:=by simp):p:=h
theorem bQ(h:p:=by simp;omega):p:=h
abbrev br.{u}:=@List.getElem?_eq_getElem.{u}
abbrev bR.{u}:=@List.getElem?_eq_some_iff.{u}
abbrev bE.{u}:=@List.mem_of_getElem?.{u}
abbrev cN:=@Nat.eq_of_beq_eq_true
abbrev cG.{u}:=@List.length_take.{u}
abbrev dA:=@Nat.mul_le_mul_right
abbrev c3:=@Int.toNat_natCast
abbrev ez.{u}:=@List.getD_eq_getElem?_getD.{u}
abbrev c6.{u}:=@List.take_length.{u}
abbrev dE.{u}:=@List.length_append.{u}
abbrev ea:=@Nat.le_of_ble_eq_true
abbrev c5.{u,v}:=@List.length_map.{u,v}
abbrev eA.{u}:=@List.mem_cons_of_mem.{u}
abbrev cQ:=@Nat.le_refl
abbrev eY.{u}:=@List.mem_of_mem_drop.{u}
abbrev d'.{u}:=@List.mem_append.{u}
abbrev gF.{u}:=@List.getElem?_append_right.{u}
abbrev en.{u}:=@List.take_add_one.{u}
abbrev gG.{u}:=@List.getElem?_append_left.{u}
abbrev ey.{u,v}:=@List.getElem?_map.{u,v}
abbrev dt:=@Nat.zero_add
abbrev dP.{u}:=@List.mem_cons.{u}
abbrev eX.{u}:=@List.mem_cons_self.{u}
abbrev gj.{u}:=@List.getElem?_set_self.{u}
abbrev dp:=@Nat.add_mul
abbrev hG.{u}:=@Array.getElem?_eq_getElem.{u}
abbrev ft.{u}:=@List.getElem?_take.{u}
abbrev gh.{u}:=@List.mem_of_mem_take.{u}
abbrev eS.{u}:=@List.length_set.{u}
abbrev jt.{u}:=@Array.getElem?_eq_some_iff.{u}
abbrev fZ.{u}:=@List.getElem?_drop.{u}
abbrev hU.{u}:=@List.take_of_length_le.{u}
abbrev kQ.{u}:=@List.eq_nil_of_length_eq_zero.{u}
abbrev fs.{u}:=@List.length_drop.{u}
abbrev fC.{u}:=@List.getElem_mem.{u}
abbrev fB.{u}:=@List.all_eq_true.{u}
abbrev fg:=@Bool.eq_iff_iff
abbrev ix.{u}:=@List.getElem?_set_ne.{u}
abbrev eP.{u,v}:=@List.mem_map.{u,v}
abbrev f'.{u,v}:=@List.map_append.{u,v}
abbrev mQ.{u}:=@List.take_append_of_le_length.{u}
abbrev ff:=@Bool.true_and
abbrev lr.{u}:=@List.drop_eq_getElem_cons.{u}
abbrev km.{u}:=@List.mem_iff_getElem?.{u}
abbrev kR.{u}:=@List.drop_eq_nil_of_le.{u}
abbrev iy.{u}:=@List.append_assoc.{u}
abbrev iz.{u}:=@List.any_eq_true.{u}
abbrev ju.{u}:=@List.all_eq_false.{u}
abbrev ls.{u}:=@List.getElem?_of_mem.{u}
abbrev gi:=@Nat.zero_mul
abbrev gE:=@Nat.le_trans
abbrev pM.{u}:=@Array.getD_eq_getD_getElem?.{u}
abbrev mR.{u}:=@List.set_append_right.{u}
abbrev mS.{u}:=@List.length_singleton.{u}
abbrev l5.{u}:=@Array.length_toList.{u}
abbrev mT.{u}:=@List.mem_append_left.{u}
abbrev gH:=@Int.le_refl
abbrev jv:=@Bool.and_false
abbrev l6:=@Nat.lt_of_lt_of_le
abbrev kS.{u}:=@List.append_nil.{u}
abbrev mU.{u}:=@List.mem_singleton.{u}
abbrev q7.{u}:=@List.mem_or_eq_of_mem_set.{u}
abbrev pQ.{u}:=@Array.getElem?_toList.{u}
abbrev pR.{u}:=@List.mem_append_right.{u}
abbrev oM.{u,v}:=@List.flatMap_append.{u,v}
abbrev mV:=@Nat.lt_succ_self
abbrev vE.{u}:=@List.drop_append_of_le_length.{u}
abbrev jS:=@Nat.sub_self
abbrev q8.{u}:=@List.getElem?_eq_none.{u}
abbrev q9.{u}:=@List.take_append_drop.{u}
abbrev pS.{u}:=@List.drop_set_of_lt.{u}
abbrev l7:=@Bool.and_assoc
abbrev nI.{u}:=@List.drop_length.{u}
abbrev td.{u}:=@List.getElem?_replicate.{u}
abbrev te.{u}:=@List.all_eq_not_any_not.{u}
abbrev pT.{u}:=@List.mem_replicate.{u}
abbrev mW:=@Int.mul_nonneg
abbrev oN:=@Bool.and_eq_true
abbrev nH:=@Nat.mul_le_mul
abbrev q4.{u}:=@List.pairwise_cons.{u}
abbrev vx.{u}:=@List.drop_of_length_le.{u}
abbrev vy.{u}:=@List.length_eq_one_iff.{u}
abbrev oK.{u}:=@List.drop_zero.{u}
abbrev vz:=@Nat.div_lt_iff_lt_mul
abbrev pN.{u}:=@List.nil_append.{u}
abbrev pO:=@List.range_succ
abbrev yI.{u}:=@Array.getElem?_replicate.{u}
abbrev Dc.{u}:=@List.mem_zipIdx_iff_getElem?.{u}
abbrev q5:=@Nat.not_lt_zero
abbrev vA.{u,v,w}:=@List.length_zipWith.{u,v,w}
abbrev ta:=@Nat.lt_of_not_le
abbrev oL:=@Nat.add_zero
abbrev pP:=@Nat.add_assoc
abbrev vB.{u}:=@List.filter_append.{u}
abbrev vC.{u}:=@List.set_cons_zero.{u}
abbrev I5.{u}:=@List.findIdx?_eq_some_iff_getElem.{u}
abbrev Dd.{u}:=@List.exists_mem_of_ne_nil.{u}
abbrev q6:=@Int.mul_le_mul
abbrev De.{u}:=@List.getElem?_take_of_lt.{u}
abbrev tb.{u}:=@List.any_append.{u}
abbrev I6.{u}:=@Array.eq_empty_of_size_eq_zero.{u}
abbrev yJ:=@Int.toNat_of_nonneg
abbrev vD.{u,v}:=@Array.toList_map.{u,v}
abbrev tc:=@List.mem_range
abbrev Df.{u}:=@List.length_replicate.{u}
abbrev q'.{u}:=@List.set_set.{u}
abbrev vF:=@Nat.min_eq_left
abbrev tf.{u,v}:=@List.map_take.{u,v}
abbrev yK.{u,v}:=@List.mem_flatMap.{u,v}
abbrev tg.{u,v,w}:=@List.map_map.{u,v,w}
abbrev kT.{u}:=@Ne.symm.{u}
abbrev yL.{u}:=@List.sum_append.{u}
abbrev th:=@Nat.sub_mul
inductive T where
  |bool (b:Bool)
  |int (k:IntKind) (n:Int)
  |str (s:List UInt8)
  |aD (rows:List (List T))
  |fo
  |hA
  |gA
  |nx
  |err
  deriving Inhabited
inductive V where
  |t (x:T)
  |agg (cs:List V)
  |bL (vs:List V)
  |ref (id off:Nat)
  |aQ (cells:List T)
  |bc (id gen size off len:Nat)
  |cC (id gen size i off:Nat)
  |fn (f:FuncId) (af9:List V)
  |c4
  deriving Inhabited
structure dQ where
  ty:TypeId
  size:Nat
  bm:List (Nat×Nat)
def tQ:List (Nat×Nat)->Nat->Option Nat
  | [],_=>none
  |p::l,j=>bif Nat.beq p.1 j then some p.2 else tQ l j
def dQ.ek(d:dQ)(j:Nat):Option Nat:=tQ d.bm j
def afh:dQ:=⟨0,0,[]⟩
def aO(a:List dQ)(m:Nat):dQ:=a.getD m afh
inductive E where
  |cells (cs:List V)
  |arr (ty:TypeId) (gen size:Nat) (rows:List (List T))
  |a8 (fq:List dQ) (m gen:Nat) (rows:List (List T)) (open_:List (Nat×Nat×V))
structure Map where
  f:Nat->Option (Option Nat×Nat)
  n:Nat->Nat->Prop
instance:CoeFun Map (λ_=>Nat->Option (Option Nat×Nat)):=⟨Map.f⟩
def At(a:Map)(c b:Nat):Prop:=(∃g,a c=some (some b,g))\/a.n c b
def dv(e a:Map):Prop:= ∀id q g,e id=some (q,g)->a id=some (q,g)\/(1<=g/\ ∃h c,a id=some (h,c)/\g<c)
theorem dv.refl(β:Map):dv β β:=λ_ _ _ h=> .inl h
variable {β D β':Map}{G:List dQ}{e:E}
theorem dv.of(h: ∀id x,β id=some x->D id=some x):dv β D:=λ_ _ _ a=> .inl (h _ _ a)
structure Ext (X:Nat->Prop) (w w':World):Prop where
  os:w'.os=w.os
  tape:w'.tape=w.tape
  output:w'.output=w.output
  size:w.heap.size<=w'.heap.size
  keep: ∀b,b<w.heap.size-> ¬X b->w'.heap[b]? =w.heap[b]?
theorem Ext.refl(X:Nat->Prop)(w:World):Ext X w w:=⟨rfl,rfl,rfl,cQ _,λ_ _ _=>rfl⟩
theorem Ext.trans(h:Ext X a b)(k:Ext X b c):Ext X a c:=
  ⟨k.os.trans h.os,k.tape.trans h.tape,k.output.trans h.output,gE h.size k.size,
   λi e l=>(k.keep i (l6 e h.size) l).trans (h.keep i e l)⟩
theorem Ext.trans'(h:Ext X a b)(k:Ext (λi=> ¬(i<a.heap.size/\ ¬X i)) b c):Ext X a c:=
  ⟨k.os.trans h.os,k.tape.trans h.tape,k.output.trans h.output,gE h.size k.size,
   λi e l=>(k.keep i (l6 e h.size) λm=>m ⟨e,l⟩).trans (h.keep i e l)⟩
theorem Ext.weaken(h:Ext X a b)(e: ∀i,i<a.heap.size->X i->Y i):Ext Y a b:=
  ⟨h.os,h.tape,h.output,h.size,λi c k=>h.keep i c λl=>k (e i c l)⟩
theorem Ext.drew(X:Nat->Prop)(w:World):Ext X w w.drew:=⟨rfl,rfl,rfl,cQ _,λ_ _ _=>rfl⟩
theorem yE(w:World)(o:Obj)(k:Nat)(h:k<w.heap.size):(w.alloc o).heap[k]? =w.heap[k]? :=by show(w.heap.push o)[k]? =_;rw[Array.getElem?_push,aY O]
theorem jB(w:World)(o:Obj):(w.alloc o).heap[w.heap.size]? =some o:=by show(w.heap.push o)[w.heap.size]? =_;simp
theorem Ext.alloc(X:Nat->Prop)(w:World)(o:Obj):Ext X w (w.alloc o):=
  ⟨rfl,rfl,rfl,aV,λk a _=>yE _ _ _ a⟩
theorem x0{b:Nat}(h:a.heap[b]? =w.heap[b]?):a.shape? b=w.shape? b:=by unfold World.shape?;rw[h]
def Shaped(_β:Map)(w a:World):Prop:= ∀b,b<w.heap.size->a.shape? b=w.shape? b
theorem Shaped.refl(β:Map)(w:World):Shaped β w w:=λ_ _=>rfl
theorem qo(e:Ext (λ_=>False) w w'):Shaped D w w':=λb a=>x0 (e.keep b a λh=>h)
theorem TW(w:World)(a:Addr)(u:Value)(k:Nat)(h:k≠a.block):(w.setCell a u).heap[k]? =w.heap[k]? :=by simp only[World.setCell,Array.getElem?_modify];rw[aY O]
theorem Ext.setCell(w:World)(a:Addr)(u:Value)(h:X a.block):Ext X w (w.setCell a u):=
  ⟨rfl,rfl,rfl,aV,λk _ c=>TW _ _ _ _ λe=>c (e▸h)⟩
theorem C7{a:Addr}(h:b.heap[a.block]? =w.heap[a.block]?):b.cell? a=w.cell? a:=by unfold World.cell?;rw[h]
inductive cX (w:World) (X:Nat->Prop):T->Value->Prop where
  |bool (b:Bool):cX w X (.bool b) (.bool b)
  |int (k:IntKind) (n:Int):cX w X (.int k n) (.int k n)
  |str (l:List UInt8):cX w X (.str l) (.string ⟨l.toArray⟩)
  |fY (a:Option Addr) (cap:Nat):cX w X (.aD []) (.slice a 0 cap)
  |aD (rows:List (List T)) (b off size cap:Nat) (f:Nat->Nat->Value) (a':b<w.heap.size) (hr: ¬X b) (Hy:rows.length<=cap)
      (k': ∀row,row∈rows->row.length=size)
      (bP: ∀i j,i<rows.length->j<size->w.cell? ⟨b,off+i*size+j,none⟩=some (f i j))
      (b7: ∀(i j:Nat) (row:List T) (x:T),rows[i]? =some row->row[j]? =some x->cX w X x (f i j)):
      cX w X (.aD rows) (.slice (some ⟨b,off,none⟩) rows.length cap)
  |fo:cX w X .fo (.slice none 0 0)
  |hA:cX w X .hA (.pointer none)
  |gA:cX w X .gA .nilIface
  |nx:cX w X .nx .nilFunc
  |err (t:TypeId) (v:Value):cX w X .err (.iface t v)
theorem cX.mono{x:T}(h:cX w X x v)(e:Ext X w w')(A: ∀b,b<w.heap.size->Y b->X b):cX w' Y x v:=by
  induction h with
  |bool b=>exact .bool b
  |int k n=>exact .int k n
  |str l=>exact .str l
  |fY a c=>exact .fY a c
  |aD m b r o c f s p q y B _ C=>
    exact .aD m b r o c f (l6 s e.size) (λh=>p (A b s h)) q y
      (λi j D F=>by rw[C7 (w:=w) (e.keep b s p)];exact B i j D F) (λi j z x G I=>C i j z x G I)
  |fo=>exact .fo
  |hA=>exact .hA
  |gA=>exact .gA
  |nx=>exact .nx
  |err t v=>exact .err t v
inductive bn (β:Map) (w:World) (X:Nat->Prop):V->Value->Prop where
  |t (x:T) (v:Value):cX w X x v->bn β w X (.t x) v
  |agg (cs:List V) (us:Array Value) (cE:us.size=cs.length) (h: ∀(i:Nat) c u,cs[i]? =some c->us[i]? =some u->bn β w X c u):bn β w X (.agg cs) (.agg us)
  |bL (cs:List V) (us:Array Value) (cE:us.size=cs.length) (h: ∀(i:Nat) c u,cs[i]? =some c->us[i]? =some u->bn β w X c u):bn β w X (.bL cs) (.tuple us)
  |ref (id off b:Nat) (a':β id=some (some b,0)):bn β w X (.ref id off) (.pointer (some ⟨b,off,none⟩))
  |aQ (cells:List T) (b off:Nat) (f:Nat->Value) (a':b<w.heap.size) (hr: ¬X b)
      (bP: ∀j,j<cells.length->w.cell? ⟨b,off+j,none⟩=some (f j))
      (b7: ∀(j:Nat) (x:T),cells[j]? =some x->cX w X x (f j)):bn β w X (.aQ cells) (.pointer (some ⟨b,off,none⟩))
  |bc (id gen size off len cap b n:Nat) (ty:TypeId) (bM:1<=gen) (a':β id=some (some b,gen)) (hw:b<w.heap.size) (hs:w.shape? b=some (ty,n)) (cJ:(off+cap)*size=n) (cE:len<=cap) (hm:cap<=maxLen):
      bn β w X (.bc id gen size off len) (.slice (some ⟨b,off*size,none⟩) len cap)
  |hz (id gen size:Nat) (bM:1<=gen) (a':β id=some (none,gen)):bn β w X (.bc id gen size 0 0) (.slice none 0 0)
  |lh (id gen size off len:Nat) (v:Value) (q:Option Nat) (g:Nat) (eu:v.oneCell'=true) (a':β id=some (q,g)) (bM:gen<g):bn β w X (.bc id gen size off len) v
  |cC (id gen size i off b:Nat) (bM:1<=gen) (a':β id=some (some b,gen)):bn β w X (.cC id gen size i off) (.pointer (some ⟨b,i*size+off,none⟩))
  |lI (id gen size i off:Nat) (v:Value) (q:Option Nat) (g:Nat) (eu:v.oneCell'=true) (a':β id=some (q,g)) (bM:gen<g):bn β w X (.cC id gen size i off) v
  |fn (f:FuncId) (cs:List V) (us:Array Value) (cE:us.size=cs.length) (h: ∀(i:Nat) c u,cs[i]? =some c->us[i]? =some u->bn β w X c u):
      bn β w X (.fn f cs) (.func (.func f) #[] us)
  |c4 (v:Value):bn β w X .c4 v
theorem bn.mono{x:V}(h:bn β w X x v)(e:Ext X w w')(D: ∀b,b<w.heap.size->Y b->X b)
    (m:dv β β') (F:Shaped β w w'):bn β' w' Y x v:=by
  induction h with
  |t x v h=>exact .t x v (h.mono e D)
  |agg cs z y _ A=>exact .agg cs z y A
  |bL cs z y _ A=>exact .bL cs z y A
  |ref id c b k=>
    rcases m _ _ _ k with h|⟨h,_⟩
    · exact .ref id c b h
    · omega
  |aQ cells b c f k B K L=>
    exact .aQ cells b c f (l6 k e.size) (λh=>B (D b k h)) (λj Q=>by rw[C7 (w:=w) (e.keep b k B)];exact K j Q)
      (λj x h=>(L j x h).mono e D)
  |bc id gen a c o G b n ty p k I R U y W=>
    rcases m _ _ _ k with h|⟨_,r,s,h,l⟩
    · exact .bc id gen a c o G b n ty p h (l6 I e.size) (by rw[F b I];exact R) U y W
    · exact .lh id gen a c o _ r s rfl h l
  |hz id gen a p k=>
    rcases m _ _ _ k with h|⟨_,r,s,h,l⟩
    · exact .hz id gen a p h
    · exact .lh id gen a 0 0 _ r s rfl h l
  |lh id gen a c o v q g C k p=>
    rcases m _ _ _ k with h|⟨_,r,s,h,l⟩
    · exact .lh id gen a c o v q g C h p
    · exact .lh id gen a c o v r s C h O
  |cC id gen a i c b p k=>
    rcases m _ _ _ k with h|⟨_,r,s,h,l⟩
    · exact .cC id gen a i c b p h
    · exact .lI id gen a i c _ r s rfl h l
  |lI id gen a i c v q g C k p=>
    rcases m _ _ _ k with h|⟨_,r,s,h,l⟩
    · exact .lI id gen a i c v q g C h p
    · exact .lI id gen a i c v r s C h O
  |fn f cs z y _ A=>exact .fn f cs z y A
  |c4 v=>exact .c4 v
inductive gK (fq:List dQ) (w:World) (X:Nat->Prop):Option Nat->T->Value->(Nat->Prop)->Prop where
  |jj (x:T) (v:Value) (N:Nat->Prop) (h:cX w X x v) (fx: ∀c,¬N c):gK fq w X none x v N
  |nil (m:Nat) (N:Nat->Prop) (fx: ∀c,¬N c):gK fq w X (some m) (.aD []) (.slice none 0 0) N
  |own (m:Nat) (rows:List (List T)) (b cap:Nat) (us:Array Value) (B:Nat->Nat->Nat->Prop) (N:Nat->Prop)
      (hw:w.heap[b]? =some (.cells us (aO fq m).ty (0,0))) (hs:us.size=cap*(aO fq m).size) (hm:cap<=maxLen) (cE:rows.length<=cap)
      (k': ∀row,row∈rows->row.length=(aO fq m).size)
      (b7: ∀(i j:Nat) (row:List T) (x:T) (u:Value),rows[i]? =some row->row[j]? =some x->us[i*(aO fq m).size+j]? =some u->gK fq w X ((aO fq m).ek j) x u (B i j))
      (fG: ∀i j c,B i j c->i<rows.length/\j<(aO fq m).size/\c≠b)
      (cv: ∀i j iO cW c,B i j c->B iO cW c->i=iO/\j=cW)
      (fx: ∀c,N c↔c=b\/ ∃i j,B i j c):
      gK fq w X (some m) (.aD rows) (.slice (some ⟨b,0,none⟩) rows.length cap) N
theorem gK.mono{x:T}{N:Nat->Prop}(h:gK G w X m x v N)(e:Ext X w w')(r: ∀b,b<w.heap.size->Y b->X b)
    (q: ∀b,N b->w'.heap[b]? =w.heap[b]?):gK G w' Y m x v N:=by
  induction h with
  |jj x v N h a=>exact .jj x v N (h.mono e r) a
  |nil m N a=>exact .nil m N a
  |own m k b n s B N y l z A o R C D a F=>
    refine .own m k b n s B N ?_ l z A o (λi j p x u I K L=>F i j p x u I K L λc Q=>q c ((a c).2 (.inr ⟨i,j,Q⟩))) C D a;rw[q b ((a b).2 (.inl rfl))];exact y
theorem gK.iff{x:T}{N:Nat->Prop}(h:gK G w X m x v N)(a: ∀c,Y c↔N c):gK G w X m x v Y:=by
  cases h with
  |jj _ _ _ h e=>exact .jj _ _ _ h (λc k=>e c ((a c).1 k))
  |nil _ _ e=>exact .nil _ _ (λc k=>e c ((a c).1 k))
  |own m i b l o B _ p q r s n y z A e=>exact .own m i b l o B _ p q r s n y z A λc=>(a c).trans (e c)
theorem gK.lt{x:T}{N:Nat->Prop}(h:gK G w X m x v N): ∀c,N c->c<w.heap.size:=by
  induction h with
  |jj _ _ _ _ a=>exact λc e=>bB e (a c)
  |nil _ _ a=>exact λc e=>bB e (a c)
  |own m k b l q B N r s C D n F y I a z=>
    intro c e;rcases(a c).1 e with rfl|⟨i,j,o⟩
    · exact(jt.1 r).1
    · obtain⟨p,K,_⟩:=y i j c o;have L:=n _ (fC p);have A:i*(aO G m).size+j<q.size:=by
        rw[s]
        have:(i+1)*(aO G m).size<=l*(aO G m).size:=dA _ O;rw[dp] at this;omega
      exact z i j _ (k[i][j]' O) _ (br p) (br O) (hG A) c o
theorem gK.yt{x:T}{N:Nat->Prop}(h:gK G w X m x v N)(A: ∀b,Y b->X b)(l: ∀b,N b-> ¬Y b):cX w Y x v:=by
  induction h with
  |jj x v N h q=>exact h.mono (Ext.refl _ _) (λb _=>A b)
  |nil m N q=>exact .fY _ _
  |own m n b e k B N s y L C o Q R U q D=>
    refine .aD n b 0 (aO G m).size e (λi j=>k.getD (i*(aO G m).size+j) undef) (jt.1 s).1 (l b ((q b).2 (.inl rfl))) C o (λi j aH F=>?_) λi j p x r z=>?_
    · have a:i*(aO G m).size+j<k.size:=by
        rw[y]
        have:(i+1)*(aO G m).size<=e*(aO G m).size:=dA _ O;rw[dp] at this;omega
      simp[World.cell?,s,a]
    · have aH:=(bR.1 r).1;have F:j<(aO G m).size:=by rw[<-o p (bE r)];exact(bR.1 z).1
      have a:i*(aO G m).size+j<k.size:=by
        rw[y]
        have:(i+1)*(aO G m).size<=e*(aO G m).size:=dA _ O;rw[dp] at this;omega
      have I:k.getD (i*(aO G m).size+j) undef=k[i*(aO G m).size+j]:=by simp[a]
      show cX w Y x (k.getD (i*(aO G m).size+j) undef);rw[I];exact D i j p x _ r z (hG a) λc K=>l c ((q c).2 (.inr ⟨i,j,K⟩))
def Cell(a:List dQ)(m:Nat)(e:List (Nat×Nat×V))(β:Map)(w:World)(X:Nat->Prop)(i j:Nat)(x:T)(u:Value)(N:Nat->Prop):Prop:=
  (∀v,(i,j,v)∈e->bn β w X v u/\ ∀c,¬N c)/\((∀v,(i,j,v)∉e)->gK a w X ((aO a m).ek j) x u N)
theorem Cell.mono{m:Nat}{U:List (Nat×Nat×V)}{x:T}{N:Nat->Prop}(h:Cell G m U β w X i j x u N)
    (e:Ext X w w') (l: ∀b,b<w.heap.size->Y b->X b) (a:dv β β') (c:Shaped β w w') (k: ∀b,N b->w'.heap[b]? =w.heap[b]?):Cell G m U β' w' Y i j x u N:=
  ⟨λv n=>⟨(h.1 v n).1.mono e l a c,(h.1 v n).2⟩,λo=>(h.2 o).mono e l k⟩
theorem Cell.none{m:Nat}{x:T}{N:Nat->Prop}(h:Cell G m [] β w X i j x u N):gK G w X ((aO G m).ek j) x u N:=h.2 λ_ a=>List.not_mem_nil a
theorem Cell.of{m:Nat}{x:T}{N:Nat->Prop}(h:gK G w X ((aO G m).ek j) x u N):Cell G m [] β w X i j x u N:=⟨λ_ a=>bB a List.not_mem_nil,λ_=>h⟩
def cH(β:Map)(w:World)(X:Nat->Prop)(l:Nat):E->Prop
  | .cells cs=> ∃(b:Nat) (h:Array Value) (ty:TypeId),β l=some (some b,0)/\w.heap[b]? =some (.cells h ty (0,0))/\h.size=cs.length/\
      ∀(i:Nat) c u,cs[i]? =some c->h[i]? =some u->bn β w X c u
  | .arr ty gen k a=>1<=gen/\((β l=some (none,gen)/\a=[])\/ ∃(b:Nat) (h:Array Value),β l=some (some b,gen)/\w.heap[b]? =some (.cells h ty (0,0))/\
      a.length*k<=h.size/\(∀e,e∈a->e.length=k)/\
      ∀(i j:Nat) (e:List T) (x:T) (u:Value),a[i]? =some e->e[j]? =some x->h[i*k+j]? =some u->cX w X x u)
  | .a8 o m gen a r=>1<=gen/\((β l=some (none,gen)/\a=[]/\(∀c,¬β.n l c))\/ ∃(b:Nat) (h:Array Value) (B:Nat->Nat->Nat->Prop),β l=some (some b,gen)/\
      w.heap[b]? =some (.cells h (aO o m).ty (0,0))/\a.length*(aO o m).size<=h.size/\(∀e,e∈a->e.length=(aO o m).size)/\
      (∀(i j:Nat) (e:List T) (x:T) (u:Value),a[i]? =some e->e[j]? =some x->h[i*(aO o m).size+j]? =some u->Cell o m r β w X i j x u (B i j))/\
      (∀i j c,B i j c->i<a.length/\j<(aO o m).size/\c≠b)/\(∀i j p q c,B i j c->B p q c->i=p/\j=q)/\ ∀c,β.n l c↔ ∃i j,B i j c)
theorem cH.mono{W:E}(h:cH β w X k W)(e:Ext X w w')(F: ∀b,b<w.heap.size->Y b->X b)
    (r:dv β β') (o: ∀x,β k=some x->β' k=some x) (s:Shaped β w w') (a: ∀b,At β k b->w'.heap[b]? =w.heap[b]?) (I: ∀b,β'.n k b↔β.n k b:=by exact λ_=>Iff.rfl):cH β' w' Y k W:=by
  cases W with
  |cells cs=>
    obtain⟨b,y,ty,l,p,z,A⟩:=h;exact⟨b,y,ty,o _ l,by rw[a b (.inl ⟨_,l⟩)];exact p,z,λi c u C Q=>(A i c u C Q).mono e F r s⟩
  |arr ty gen K D=>
    refine⟨h.1,?_⟩;rcases h.2 with ⟨l,p⟩|⟨b,y,l,p,z,A,G⟩
    · exact .inl ⟨o _ l,p⟩
    · exact .inr ⟨b,y,o _ l,by rw[a b (.inl ⟨_,l⟩)];exact p,z,A,λi j q x u aJ a2 a3=>(G i j q x u aJ a2 a3).mono e F⟩
  |a8 t m gen D v=>
    refine⟨h.1,?_⟩;rcases h.2 with ⟨l,p,R⟩|⟨b,y,B,l,p,z,A,G,U,f,L⟩
    · exact .inl ⟨o _ l,p,λc C=>R c ((I c).1 C)⟩
    · refine .inr ⟨b,y,B,o _ l,by rw[a b (.inl ⟨_,l⟩)];exact p,z,A,λi j q x u aJ a2 a3=>(G i j q x u aJ a2 a3).mono e F r s λc C=>a c (.inr ((L c).2 ⟨i,j,C⟩)),U,f,λc=>(I c).trans (L c)⟩
def Map.put(a:Map)(d:Nat)(x:Option (Option Nat×Nat)):Map:=⟨λi=>bif Nat.beq i d then x else a i,a.n⟩
theorem jg(a:Map)(d:Nat)(x:Option (Option Nat×Nat)):a.put d x d=x:=by simp[Map.put]
theorem ep(a:Map)(d i:Nat)(x:Option (Option Nat×Nat))(h:i≠d):a.put d x i=a i:=by
  have:Nat.beq i d=false:=by cases c:Nat.beq i d with
    |false=>rfl
    |true=>exact bB (cN c) h
  simp[Map.put,this]
def aU{k:Type}(f:Nat->k)(d:Nat)(v:k):Nat->k:=λi=>bif Nat.beq i d then v else f i
theorem bW{k:Type}(f:Nat->k)(d:Nat)(v:k):aU f d v d=v:=by simp[aU]
theorem bX{k:Type}(f:Nat->k)(d i:Nat)(v:k)(h:i≠d):aU f d v i=f i:=by
  have:Nat.beq i d=false:=by cases a:Nat.beq i d with
    |false=>rfl
    |true=>exact bB (cN a) h
  simp[aU,this]
structure S where
  t:Nat->V
  H:Nat->Option E
  u:Nat->Bool
structure fe where
  x5:Nat
  W:World
def fe.ok(G:fe)(w:World):Prop:=G.x5<=w.heap.size/\ ∀b,b<G.x5->w.heap[b]? =G.W.heap[b]?
structure Ctx where
  P:Program
  G:fe
  w0:World
  X:Nat->Prop
  c':Nat
  gU:Map
  nt:Nat
def Ctx.M(K:Ctx)(b:Nat):Prop:= ∃id,id<K.c'/\At K.gU id b
def own(K:Ctx)(β:Map)(H:Nat->Option E)(b:Nat):Prop:=K.X b\/ ∃id,H id≠none/\At β id b
def kp(n:Nat)(a c:Map)(i:Nat):Prop:= ∀id,id<n->(c id=a id)\/ ∃q g e h,a id=some (q,g)/\1<=g/\c id=some (e,h)/\g<h/\ ∀b,e=some b->q=some b\/i<=b
theorem kp.refl(n:Nat)(β:Map)(sz:Nat):kp n β β sz:=λ_ _=> .inl rfl
theorem kp.keep{T S:Map}(h:kp n D T sz)(a: ∀id,id<n->S id=T id):kp n D S sz:=λid hid=>by rw[a id hid];exact h id hid
theorem kp.more{S T:Map}(h:kp n S T sz)(l: ∀id,id<n->(D id=T id)\/ ∃q g a i,T id=some (q,g)/\1<=g/\D id=some (a,i)/\g<i/\ ∀b,a=some b->q=some b\/sz<=b):kp n S D sz:=by
  intro id hid;rcases l id hid with e|⟨q,g,a,i,aJ,a2,a3,a4,a5⟩
  · rw[e];exact h id hid
  · rcases h id hid with e|⟨m,o,x,y,p,r,k,z,s⟩
    · exact .inr ⟨q,g,a,i,by rw[<-e];exact aJ,a2,a3,a4,a5⟩
    · rw[aJ] at k;cases k;exact .inr ⟨m,o,a,i,p,r,a3,O,λb w=>by
        rcases a5 b w with c|c
        · exact s b c
        · exact .inr c⟩
theorem kp.grow{S T:Map}(h:kp n S T sz)(k gen:Nat)(q c:Option Nat)(l:T k=some (q,gen))(r:1<=gen)(m:D k=some (c,gen+1))(a: ∀b,c=some b->q=some b\/sz<=b)
    (s: ∀id,id≠k->D id=T id):kp n S D sz:=by
  intro id hid;by_cases o:id=k
  · subst o;rcases h id hid with e|⟨w,x,B,C,e,y,p,F,z⟩
    · exact .inr ⟨q,gen,c,gen+1,by rw[<-e];exact l,r,m,mV _,a⟩
    · rw[l] at p;cases p;exact .inr ⟨w,x,c,gen+1,e,y,m,O,λb A=>by
        rcases a b A with i|i
        · exact z b i
        · exact .inr i⟩
  · rw[s id o];exact h id hid
theorem Shaped.ext(h:Shaped D a w)(c:a.heap.size<=w.heap.size)(e:Ext (λ_=>False) w w'):Shaped D a w':=
  λb i=>(x0 (e.keep b (l6 i c) λh=>h)).trans (h b i)
structure Rel (K:Ctx) (β:Map) (s:S) (a:Act) (w:World):Prop where
  ext:Ext K.M K.w0 w
  oi:K.G.ok K.w0
  ow: ∀b,K.M b->K.G.x5<=b
  iD: ∀b,K.X b->b<K.w0.heap.size/\ ¬K.M b
  base:kp K.c' K.gU β K.w0.heap.size
  iW:Shaped K.gU K.w0 w
  low: ∀id,id<K.c'->s.u id=true
  dL: ∀id,s.u id=false->β id=none
  ed: ∀id b,s.u id=false-> ¬β.n id b
  qC: ∀id j' b,At K.gU id b->At K.gU j' b->id=j'
  inj: ∀id j' b,At β id b->At β j' b->id=j'
  fresh: ∀id b,At β id b->(K.M b\/K.w0.heap.size<=b)/\b<w.heap.size
  heap: ∀id e,s.H id=some e->s.u id=true/\cH β w (own K β s.H) id e
  cZ: ∀i,bn β w (own K β s.H) (s.t i) (a.tmps.getD i undef)
  nt:a.tmps.size=K.nt
  defers:a.defers=[]
theorem U8{G:fe}(h:G.ok w)(e:Ext X w w')(c: ∀b,X b->G.x5<=b):G.ok w':=
  ⟨gE h.1 e.size,λb a=>(e.keep b (l6 a h.1) λi=>by have:=c b i;omega).trans (h.2 b a)⟩
variable {K:Ctx}
theorem Rel.BH{s:S}{a:Act}(h:Rel K β s a w):K.G.ok w:=U8 h.oi h.ext h.ow
mutual
def V.ok(u:Nat->Bool):V->Bool
  | .ref id _=>u id
  | .bc id _ _ _ _=>u id
  | .cC id _ _ _ _=>u id
  | .agg cs=>gz u cs
  | .bL cs=>gz u cs
  | .fn _ cs=>gz u cs
  | .t _=>true
  | .aQ _=>true
  | .c4=>true
def gz(u:Nat->Bool):List V->Bool
  | []=>true
  |c::cs=>V.ok u c&&gz u cs
end
theorem vw{u:Nat->Bool}: ∀{cs:List V} {i:Nat} {c:V},gz u cs=true->cs[i]? =some c->V.ok u c=true
  | [],_,_,_,h=>by simp at h
  |c::cs,0,_,h,a=>by simp at a;subst a;simp[gz] at h;exact h.1
  |c::cs,i+1,_,h,a=>by simp at a;simp[gz] at h;exact vw h.2 a
theorem bn.under{u:Nat->Bool}{x:V}(h:bn β w X x v)(B: ∀b,Y b->X b)
    (l: ∀id,u id=true->β' id=β id) (p:x.ok u=true):bn β' w Y x v:=by
  induction h with
  |t x v h=>exact .t x v (h.mono (Ext.refl _ _) λb _=>B b)
  |agg cs y k _ z=>exact .agg cs y k (λi c u o A=>z i c u o A (vw (by simpa[V.ok] using p) o))
  |bL cs y k _ z=>exact .bL cs y k (λi c u o A=>z i c u o A (vw (by simpa[V.ok] using p) o))
  |ref id e b n=>exact .ref id e b (by rw[l id (by simpa[V.ok] using p)];exact n)
  |aQ cells b e f n C o G=>exact .aQ cells b e f n (λh=>C (B _ h)) o (λj x h=>(G j x h).mono (Ext.refl _ _) λb _=>B b)
  |bc id gen a e s D b m ty r n I K L k Q=>exact .bc id gen a e s D b m ty r (by rw[l id (by simpa[V.ok] using p)];exact n) I K L k Q
  |hz id gen a r n=>exact .hz id gen a r (by rw[l id (by simpa[V.ok] using p)];exact n)
  |lh id gen a e s v q g F n r=>exact .lh id gen a e s v q g F (by rw[l id (by simpa[V.ok] using p)];exact n) r
  |cC id gen a i e b r n=>exact .cC id gen a i e b r (by rw[l id (by simpa[V.ok] using p)];exact n)
  |lI id gen a i e v q g F n r=>exact .lI id gen a i e v q g F (by rw[l id (by simpa[V.ok] using p)];exact n) r
  |fn f cs y k _ z=>exact .fn f cs y k (λi c u o A=>z i c u o A (vw (by simpa[V.ok] using p) o))
  |c4 v=>exact .c4 v
def ud(u:Nat->Bool):List (Nat×Nat×V)->Bool
  | []=>true
  |h::a=>h.2.2.ok u&&ud u a
theorem FF{u:Nat->Bool}: ∀{a:List (Nat×Nat×V)} {i j:Nat} {v:V},ud u a=true->(i,j,v)∈a->v.ok u=true
  | [],_,_,_,_,h=>by cases h
  |h::a,i,j,v,c,hm=>by
    simp only[ud,Bool.and_eq_true] at c;rcases dP.1 hm with rfl|hm
    · exact c.1
    · exact FF c.2 hm
def E.ok(u:Nat->Bool):E->Bool
  | .cells cs=>gz u cs
  | .arr _ _ _ _=>true
  | .a8 _ _ _ _ a=>ud u a
def S.le(K:Ctx)(s s':S):Prop:= ∀β a w,Rel K β s a w-> ∃c,Rel K c s' a w
theorem S.le.refl(K:Ctx)(s:S):s.le K s:=λβ _ _ h=>⟨β,h⟩
theorem S.le.trans{a b c:S}(h:a.le K b)(k:b.le K c):a.le K c:=λβ x w i=>let ⟨e,l⟩:=h β x w i;k e x w l
def dC(v c:V):Prop:= ∀a w X u,bn a w X v u->bn a w X c u
theorem dC.refl(v:V):dC v v:=λ_ _ _ _ h=>h
theorem dC.of_eq{v dx:V}(h:v=dx):dC v dx:=h▸dC.refl v
theorem dC.nil:dC (.t .fo) (.t (.aD [])):=by intro β w X u h;cases h with|t _ _ h=>cases h;exact .t _ _ (.fY _ _)
theorem dC.c4(v:V):dC v .c4:=λ_ _ _ _ _=> .c4 _
theorem dC.trans{a b c:V}(h:dC a b)(k:dC b c):dC a c:=λe w X u i=>k e w X u (h e w X u i)
def fr:List V->List V->Prop
  | [],[]=>True
  |v::c,e::a=>dC v e/\fr c a
  |_,_=>False
theorem fr.refl: ∀a:List V,fr a a
  | []=>trivial
  |v::a=>⟨dC.refl v,fr.refl a⟩
theorem fr.get: ∀{c a:List V},fr c a->c.length=a.length/\ ∀(i:Nat) e,a[i]? =some e-> ∃v,c[i]? =some v/\dC v e
  | [],[],_=>⟨rfl,λi e h=>by simp at h⟩
  |v::c,e::a,h=>by
    obtain⟨l,m⟩:=fr.get h.2;refine⟨by simp[l],λi x k=>?_⟩;cases i with
    |zero=>simp at k;subst k;exact⟨v,rfl,h.1⟩
    |succ i=>simp at k;exact m i x k
  | [],_::_,h=>h.elim
  |_::_,[],h=>h.elim
theorem dC.agg{e a:List V}(h:fr e a):dC (.agg e) (.agg a):=by
  intro s w X u k;obtain⟨x,l⟩:=h.get;cases k with
  |agg _ m y n=>exact .agg _ m O λi c u o p=>by obtain⟨v,q,r⟩:=l i c o;exact r _ _ _ _ (n i v u q p)
theorem dC.bL{e a:List V}(h:fr e a):dC (.bL e) (.bL a):=by
  intro s w X u k;obtain⟨x,l⟩:=h.get;cases k with
  |bL _ m y n=>exact .bL _ m O λi c u o p=>by obtain⟨v,q,r⟩:=l i c o;exact r _ _ _ _ (n i v u q p)
def jx(e a:E):Prop:=match e,a with
  | .cells cs,.cells c=>fr cs c
  |e,a=>e=a
theorem jx.refl(e:E):jx e e:=by cases e with
  |cells cs=>exact fr.refl cs
  |arr=>rfl
  |a8=>rfl
theorem jx.vj{e':E}(h:jx e e')(k:cH D w X n e):cH D w X n e':=by
  cases e with
  |cells cs=>
    cases e' with
    |cells o=>
      obtain⟨C,p⟩:=fr.get h;obtain⟨b,q,ty,r,s,F,x⟩:=k;exact⟨b,q,ty,r,s,O,λi c u y z=>by obtain⟨v,A,B⟩:=p i c y;exact B _ _ _ _ (x i v u A z)⟩
    |arr=>cases h
    |a8=>cases h
  |arr ty gen l a=>
    cases e' with
    |cells=>cases h
    |arr=>cases h;exact k
    |a8=>cases h
  |a8 G m gen a I=>
    cases e' with
    |cells=>cases h
    |arr=>cases h
    |a8=>cases h;exact k
def oW(t:Nat->V)(u:Nat->Bool)(a:Nat->V):Prop:= ∀i,a i= .c4\/(dC (t i) (a i)/\(a i).ok u=true)
def lB(H:Nat->Option E)(u:Nat->Bool)(c:Nat->Option E):Prop:= ∀id e,c id=some e->(∃a,H id=some a/\jx a e)/\u id=true/\e.ok u=true
def tx(u a:Nat->Bool):Prop:= ∀id,a id=true->u id=true
def mH:Nat->(Nat->Bool)->Bool
  |0,_=>true
  |n+1,u=>u n&&mH n u
theorem Ef{u:Nat->Bool}: ∀{n:Nat},mH n u=true-> ∀id,id<n->u id=true
  |0,_,_,h=>bB h (q5 _)
  |n+1,h,id,hid=>by
    simp[mH] at h;by_cases e:id=n
    · subst e;exact h.1
    · exact Ef h.2 id O
def pD:Nat->V:=λ_=> .c4
def oO:Nat->Option E:=λ_=>none
def gx:Nat->Bool:=λ_=>false
theorem oW.nil(t:Nat->V)(u:Nat->Bool):oW t u pD:=λ_=> .inl rfl
theorem oW.aU{t:Nat->V}{u:Nat->Bool}{r:Nat->V}{d:Nat}{v:V}(h:dC (t d) v)(c:v.ok u=true)(e:oW t u r):oW t u (Lift.aU r d v):=by
  intro i;by_cases a:i=d
  · subst a;rw[bW];exact .inr ⟨h,c⟩
  · rw[bX _ _ _ _ a];exact e i
theorem lB.nil(H:Nat->Option E)(u:Nat->Bool):lB H u oO:=λ_ _ h=>by simp[oO] at h
theorem lB.aU{H:Nat->Option E}{u:Nat->Bool}{r:Nat->Option E}{d:Nat}(c:E)(h:H d=some c)(l:jx c e)(m:u d=true)(n:e.ok u=true)(o:lB H u r):lB H u (Lift.aU r d (some e)):=by
  intro i e' a;by_cases k:i=d
  · subst k;rw[bW] at a;cases a;exact⟨⟨c,h,l⟩,m,n⟩
  · rw[bX _ _ _ _ k] at a;exact o i e' a
theorem tx.nil(u:Nat->Bool):tx u gx:=λ_ h=>by simp[gx] at h
theorem tx.aU{u r:Nat->Bool}{d:Nat}(h:u d=true)(e:tx u r):tx u (Lift.aU r d true):=by
  intro i a;by_cases c:i=d
  · subst c;exact h
  · rw[bX _ _ _ _ c] at a;exact e i a
theorem cH.under{u:Nat->Bool}(h:cH β w X k e)(C: ∀b,Y b->X b)
    (a: ∀k,u k=true->β' k=β k) (l:u k=true) (G:e.ok u=true) (I: ∀b,β'.n k b↔β.n k b:=by exact λ_=>Iff.rfl):cH β' w Y k e:=by
  cases e with
  |cells cs=>
    obtain⟨b,r,ty,p,q,s,y⟩:=h;exact⟨b,r,ty,by rw[a k l];exact p,q,s,λi c u D L=>(y i c u D L).under C a (vw G D)⟩
  |arr ty gen K z=>
    refine⟨h.1,?_⟩;rcases h.2 with ⟨p,q⟩|⟨b,r,p,q,s,y,A⟩
    · exact .inl ⟨by rw[a k l];exact p,q⟩
    · exact .inr ⟨b,r,by rw[a k l];exact p,q,s,y,λi j o x u aJ a2 a3=>(A i j o x u aJ a2 a3).mono (Ext.refl _ _) λb _=>C b⟩
  |a8 t m gen z M=>
    refine⟨h.1,?_⟩;rcases h.2 with ⟨p,q,Q⟩|⟨b,r,B,p,q,s,y,A,R,U,W⟩
    · exact .inl ⟨by rw[a k l];exact p,q,λc D=>Q c ((I c).1 D)⟩
    · refine .inr ⟨b,r,B,by rw[a k l];exact p,q,s,y,λi j o x u aJ a2 a3=>⟨λv F=>⟨((A i j o x u aJ a2 a3).1 v F).1.under C a (FF G F),((A i j o x u aJ a2 a3).1 v F).2⟩,
        λf=>((A i j o x u aJ a2 a3).2 f).mono (Ext.refl _ _) (λb _=>C b) λ_ _=>rfl⟩,R,U,λc=>(I c).trans (W c)⟩
def cut(β:Map)(u:Nat->Bool):Map:=⟨λid=>bif u id then β id else none,λid b=>u id=true/\β.n id b⟩
theorem AY{u:Nat->Bool}{b:Nat}(h:At (cut D u) i b):At D i b:=by
  rcases h with ⟨g,h⟩|h
  · refine .inl ⟨g,?_⟩;by_cases a:u i=true
    · simpa[cut,a] using h
    · simp[cut,a] at h
  · exact .inr h.2
theorem w4{u:Nat->Bool}{id:Nat}(h:u id=true):cut D u id=D id:=by simp[cut,h]
theorem Eh{s s':S}(c:lB s.H s'.u s'.H): ∀b,own K (cut β s'.u) s'.H b->own K β s.H b:=by
  rintro b (h|⟨id,i,k⟩)
  · exact .inl h
  · cases a:s'.H id with
    |none=>exact bB a i
    |some e=>
      obtain⟨m,l,_⟩:=(c id e a).1;exact .inr ⟨id,by rw[l];simp,AY k⟩
theorem Rel.cut{s s':S}{a:Act}(l:Rel K β s a w)(q:oW s.t s'.u s'.t)(p:lB s.H s'.u s'.H)(n:mH K.c' s'.u=true):Rel K (cut β s'.u) s' a w:=by
  have c:=Eh (K:=K) (β:=β) p;refine {l with base:= ?_,low:=Ef n,dL:= ?_,ed:= ?_,inj:= ?_,fresh:= ?_,heap:= ?_,cZ:= ?_}
  · exact l.base.keep λid hid=>w4 (Ef n id hid)
  · intro id hid;simp[Lift.cut,hid]
  · intro id b hid h;rw[h.1] at hid;cases hid
  · intro id o b m k;exact l.inj id o b (AY m) (AY k)
  · intro id b h;exact l.fresh id b (AY h)
  · intro id e r;obtain⟨⟨x,m,n⟩,k,y⟩:=p id e r;exact⟨k,(n.vj (l.heap id x m).2).under c (λ_ h=>w4 h) k y λ_=>⟨λh=>h.2,λh=>⟨k,h⟩⟩⟩
  · intro i;rcases q i with h|⟨m,k⟩
    · rw[h];exact .c4 _
    · exact(m _ _ _ _ (l.cZ i)).under c (λ_ h=>w4 h) k
theorem aaD{s s':S}(a:oW s.t s'.u s'.t)(c:lB s.H s'.u s'.H)(_hu:tx s.u s'.u)(e:mH K.c' s'.u=true):s.le K s':=
  λh _ _ i=>⟨Lift.cut h s'.u,i.cut a c e⟩
def Ax:Value->V
  | .bool b=> .t (.bool b)
  | .int k n=> .t (.int k n)
  | .string s=> .t (.str s.data.toList)
  | .slice none 0 0=> .t .fo
  | .pointer none=> .t .hA
  | .nilIface=> .t .gA
  | .nilFunc=> .t .nx
  |_=> .c4
def gX:Value->V
  | .agg cs=> .agg (cs.toList.map Ax)
  |v=>Ax v
def S.get(s:S):Operand->V
  | .tmp t=>s.t t
  | .const v=>gX v
  | .func f=> .fn f []
  | .global _=> .c4
theorem Kt(a:Map)(w:World)(X:Nat->Prop)(v:Value):bn a w X (Ax v) v:=by
  unfold Ax;split
  · exact .t _ _ (.bool _)
  · exact .t _ _ (.int _ _)
  · rename_i s;have h:=cX.str (w:=w) (X:=X) s.data.toList;exact .t _ _ (by simpa using h)
  · exact .t _ _ .fo
  · exact .t _ _ .hA
  · exact .t _ _ .gA
  · exact .t _ _ .nx
  · exact .c4 _
theorem yx(β:Map)(w:World)(X:Nat->Prop)(v:Value):bn β w X (gX v) v:=by
  unfold gX;split
  · rename_i cs;exact .agg _ _ aV (λi c u a h=>by
      simp only[List.getElem?_map,Array.getElem?_toList,Option.map_eq_some_iff] at a;obtain⟨l,e,k⟩:=a;rw[h] at e;cases e;rw[<-k];exact Kt _ _ _ _)
  · exact Kt _ _ _ _
def dw(β:Map)(w:World)(X:Nat->Prop):List V->List Value->Prop
  | [],[]=>True
  |v::a,u::c=>bn β w X v u/\dw β w X a c
  |_,_=>False
theorem dw.mono{β β':Map}{w w':World}{X Y:Nat->Prop}: ∀{c:List V} {i:List Value},dw β w X c i->Ext X w w'->(∀b,b<w.heap.size->Y b->X b)->
    dv β β'->Shaped β w w'->dw β' w' Y c i
  | [],[],_,_,_,_,_=>trivial
  |_::_,_::_,h,e,k,a,l=>⟨h.1.mono e k a l,dw.mono h.2 e k a l⟩
  | [],_::_,h,_,_,_,_=>h.elim
  |_::_,[],h,_,_,_,_=>h.elim
theorem dw.le: ∀{β:Map} {w:World} {X:Nat->Prop} {c a:List V} {e:List Value},dw β w X c e->fr c a->dw β w X a e
  |_,_,_,[],[],[],_,_=>trivial
  |_,_,_,_::_,_::_,_::_,h,k=>⟨k.1 _ _ _ _ h.1,dw.le h.2 k.2⟩
  |_,_,_,[],_::_,_,_,k=>k.elim
  |_,_,_,_::_,[],_,_,k=>k.elim
  |_,_,_,[],[],_::_,h,_=>h.elim
  |_,_,_,_::_,_::_,[],h,_=>h.elim
theorem Rel.get{s:S}{a:Act}(h:Rel K β s a w)(x:Operand):bn β w (own K β s.H) (s.get x) (a.eval x):=by
  cases x with
  |tmp t=>exact h.cZ t
  |const v=>exact yx _ _ _ v
  |func f=>exact .fn f [] #[] rfl (λi c u e _=>by simp at e)
  |global g=>exact .c4 _
theorem Rel.oh{s:S}{a:Act}(h:Rel K β s a w): ∀c:List Operand,dw β w (own K β s.H) (c.map s.get) (c.map a.eval)
  | []=>trivial
  |x::c=>⟨h.get x,h.oh c⟩
def b9(P:Program)(H:Nat->Option E)(o:Oper)(a:List V)(v:V):Prop:=
  ∀(c:Map) (w:World) (X:Nat->Prop) (h:Operand->Value),(∀id e,H id=some e->cH c w X id e)->
    dw c w X a (o.op.operands.toList.map h)-> ∃u,(execOp h o).run P w= .ok (.value u) w/\bn c w X v u
def dT(K:Ctx)(o:Oper)(s i:S):Prop:=
  ∀k a w next Q,Rel K k s a w->(∀c e h,Rel K c i e h->next e h)->o.wp K.P a w next Q
def S.put(s:S)(d:Option Tmp)(v:V):S:=match d with
  |some d=>{s with t:=aU s.t d v}
  |none=>s
theorem Rel.put{s:S}{a:Act}(h:Rel K β s a w)(d:Option Tmp)(k: ∀i,d=some i->Nat.blt i K.nt=true){v:V}(l:bn β w (own K β s.H) v u):
    Rel K β (s.put d v) (a.put d u) w:=by
  cases d with
  |none=>exact h
  |some d=>
    have c:d<a.tmps.size:=by rw[h.nt];have:=k d rfl;simpa[Nat.blt_eq] using this
    refine {h with cZ:= ?_,nt:= ?_}
    · intro i;simp only[Act.put,S.put];by_cases e:i=d
      · subst e;rw[bW];simp only[Array.getD_eq_getD_getElem?,Array.getElem?_setIfInBounds_self_of_lt c,Option.getD_some];exact l
      · rw[bX _ _ _ _ e];simp only[Array.getD_eq_getD_getElem?,Array.getElem?_setIfInBounds_ne (Ne.symm e)]
        have:=h.cZ i;simpa only[Array.getD_eq_getD_getElem?] using this
    · simpa[Act.put] using h.nt
theorem Ub{o:Oper}{s:S}{vals:List V}{v:V}(m: ∀i,o.dst=some i->Nat.blt i K.nt=true)(n:fr (o.op.operands.toList.map s.get) vals)(h:b9 K.P s.H o vals v):
    dT K o s (s.put o.dst v):=by
  intro k a w next Q l p
  obtain⟨u,c,q⟩:=h k w (own K k s.H) a.eval (λid e r=>(l.heap id e r).2) ((l.oh _).le n);unfold Oper.wp;rw[c];exact p k _ w (l.put o.dst m q)
section nO
variable {P:Program} {H:Nat->Option E} {d:Option Tmp} {ty:TypeId} {pos:String} {af:Array Edge} {g:Option (Nat×Bool)}
theorem aae(x:Operand)(v:V):b9 P H ⟨d,.move x,ty,pos,af,g⟩ [v] v:=by intro e w X a _ c;exact⟨a x,rfl,c.1⟩
theorem Yc(x:Operand)(v:V):b9 P H ⟨d,.assign x,ty,pos,af,g⟩ [v] v:=by intro e w X a _ c;exact⟨a x,rfl,c.1⟩
theorem nw{b:Bool}(h:bn D w X (.t (.bool b)) u):u= .bool b:=by cases h with|t _ _ h=>cases h with|bool=>rfl
theorem dF{k:IntKind}{n:Int}(h:bn D w X (.t (.int k n)) u):u= .int k n:=by cases h with|t _ _ h=>cases h with|int=>rfl
theorem hn{l:List UInt8}(h:bn D w X (.t (.str l)) u):u= .string ⟨l.toArray⟩:=by cases h with|t _ _ h=>cases h with|str=>rfl
theorem Ud(c x y:Operand)(v e:V):b9 P H ⟨d,.pick c x y,ty,pos,af,g⟩ [.t (.bool true),v,e] v:=by
  intro i w X h _ a;refine⟨h x,?_,a.2.1⟩
  have:=nw a.1;simp[execOp,this,asBool]
theorem TM(c x y:Operand)(v dx:V):b9 P H ⟨d,.pick c x y,ty,pos,af,g⟩ [.t (.bool false),v,dx] dx:=by
  intro h w X e _ a;refine⟨e y,?_,a.2.2.1⟩
  have:=nw a.1;simp[execOp,this,asBool]
theorem abq(x y:Operand)(t c:TypeId)(k:IntKind)(m n:Int):b9 P H ⟨d,.binOp .add t x y c,ty,pos,af,g⟩ [.t (.int k m),.t (.int k n)] (.t (.int k (k.wrap (m+n)))):=by intro e w X h _ a;refine⟨.int k (k.wrap (m+n)),?_,.t _ _ (.int _ _)⟩;simp[execOp,dF a.1,dF a.2.1,eqGuard,binOp,Op.intArith]
end nO
end
section
def cK(K:Ctx)(c:Code)(s:S)(Q:Exit->S->Prop):Prop:=
  ∀m a w h,Rel K m s a w->(∀e i d k l,Q e i->Rel K d i k l->h e k l)->c.wp K.P h a w
def qb(K:Ctx)(c:Array Oper)(l:List Oper)(s:S)(Q:S->Prop):Prop:=
  ∀m a w e,Rel K m s a w->(∀h d i k,Q h->Rel K d h i k->e .normal i k)->wpList K.P c e l a w
def qd(next:S->Prop)(Q:Exit->S->Prop):Exit->S->Prop
  | .normal,s=>next s
  |e,s=>Q e s
def w9(c:Nat)(Q:Exit->S->Prop):Exit->S->Prop
  | .exit a,s=>bif Nat.beq a c then Q .normal s else Q (.exit a) s
  |e,s=>Q e s
def Bl(a:S->Prop)(Q:Exit->S->Prop):Exit->S->Prop
  | .normal,s=>a s
  |e,s=>Q e s
variable {P:Program}{c x y:Code}{a:Act}{w:World}{b:Bool}{i t:Nat}{β:Map}{X:Nat->Prop}
theorem SH{R:Type}{Q:Exit->Act->World->Prop}(I:R->Act->World->Prop)(l9 :R->Nat)(x:R)(G:I x a w)
    (p: ∀x a w,I x a w->c.wp P (Exit.then (λz w'=> ∃y,I y z w'/\ l9 y< l9 x) Q) a w):(Code.loop c).wp P Q a w:=by
  intro b k cs;have D: ∀n x a w,l9 x=n->I x a w->
      ∃e z w',Q e z w'/\Arrives P (lone (b.at a (.code c:: .inLoop c::k)) cs w) b k cs e z w':=by
    intro n;induction n using Nat.strongRecOn with
    |_ n H=>
      intro x a w L U;obtain⟨e,h,i,o,d⟩:=p x a w U b (.inLoop c::k) cs;cases e with
      |normal=>
        obtain⟨y,q,F⟩:=o;obtain⟨A,B,C,r,m⟩:=H (l9 y) (L▸F) y h i rfl q;exact⟨A,B,C,r,.of_steps (Steps.trans d (.one step_inLoop)) m⟩
      |exit id=>exact⟨_,h,i,o,.pass (x:= .inLoop c) rfl (λ_ _=> .inl aV) d⟩
      |goto l=>exact⟨_,h,i,o,.pass (x:= .inLoop c) rfl (λ_ _=> .inl aV) d⟩
      |ret=>exact⟨_,h,i,o,.pass (x:= .inLoop c) rfl (λ_ _=> .inl aV) d⟩
      |panic W=>exact⟨_,h,i,o,.pass (x:= .inLoop c) rfl (λ_ _=> .inl aV) d⟩
      |outgrown=>exact⟨_,h,i,o,.pass (x:= .inLoop c) rfl (λ_ _=> .inl aV) d⟩
  obtain⟨e,z,w',o,d⟩:=D _ x a w rfl G;exact⟨e,z,w',o,.of_steps (.one step_loop) d⟩
section rules
variable {K:Ctx} {s:S} {Q:Exit->S->Prop}
theorem vZ{E:Exit->S->Prop}(h:cK K c s Q)(k: ∀e s,Q e s->E e s):cK K c s E:=
  λl a w m n o=>h l a w m n λe i d p x q r=>o e i d p x (k e i q) r
theorem vb{b:S}(i:s.le K b)(h:cK K c b Q):cK K c s Q:=
  λk a w l m n=>let ⟨d,e⟩:=i k a w m;h d a w l e n
theorem AL(h:cK K x s (qd (λn=>cK K y n Q) Q)):cK K (.seq x y) s Q:=by
  intro o a w p q i;refine wp_seq (h o a w _ q ?_);intro e A m r z k d;cases e with
  |normal=>exact k m r z p d i
  |exit id=>exact i _ _ _ _ _ k d
  |goto l=>exact i _ _ _ _ _ k d
  |ret=>exact i _ _ _ _ _ k d
  |panic c=>exact i _ _ _ _ _ k d
  |outgrown=>exact i _ _ _ _ _ k d
theorem Ye(h:Q .normal s):cK K .skip s Q:=λc a w _ d e=>wp_skip (e _ _ c a w h d)
theorem Y9(h:Q .ret s):cK K .ret s Q:=λc a w _ d e=>wp_ret (e _ _ c a w h d)
theorem Yg(h:Q (.exit i) s):cK K (.exit i) s Q:=λc a w _ d e=>wp_exit (e _ _ c a w h d)
theorem j5{c:Operand}(l:s.get c= .t (.bool b))(m:b=true->cK K x s Q)(n:b=false->cK K y s Q):cK K (.cond c x y) s Q:=by
  intro e a w i d k;have h:=d.get c;rw[l] at h;have a':=nw h;cases b with
  |true=>exact wp_cond_true a' (m rfl e a w i d k)
  |false=>exact wp_cond_false a' (n rfl e a w i d k)
theorem WD(h:cK K c s (w9 i Q)):cK K (.block i c) s Q:=by
  intro o a w x p n;refine wp_block (h o a w _ p ?_);intro e y q z A m d;cases e with
  |exit k=>
    by_cases hid:k=i
    · subst hid;simp only[w9,Exit.inBlock,if_true] at*;rw[show Nat.beq k k=true by simp,cond_true] at m;exact n _ _ _ _ _ m d
    · simp only[w9,Exit.inBlock] at*;rw[aY hid];rw[show Nat.beq k i=false from by cases r:Nat.beq k i with
        |false=>rfl
        |true=>exact bB (cN r) hid,cond_false] at m
      exact n _ _ _ _ _ m d
  |normal=>exact n _ _ _ _ _ m d
  |goto l=>exact n _ _ _ _ _ m d
  |ret=>exact n _ _ _ _ _ m d
  |panic c=>exact n _ _ _ _ _ m d
  |outgrown=>exact n _ _ _ _ _ m d
theorem Yf{ι:Type}(I:ι->S)(p:ι->Prop)(l9 :ι->Nat)(x:ι)(L:p x)(R:s.le K (I x))
    (h: ∀x,p x->cK K c (I x) (Bl (λH=> ∃y,p y/\ l9 y< l9 x/\H.le K (I y)) Q)):cK K (.loop c) s Q:=by
  intro U a w g W m;obtain⟨i,o⟩:=R U a w W;refine SH (λy X Y=>p y/\ ∃i,Rel K i (I y) X Y) l9 x ⟨L,i,o⟩ ?_;intro y aJ b ⟨q,r,A⟩;refine h y q r aJ b _ A ?_;intro e H B a2 f k d;cases e with
  |normal=>
    obtain⟨z,C,D,n⟩:=k;obtain⟨F,G⟩:=n B a2 f d;exact⟨z,⟨C,F,G⟩,D⟩
  |exit id=>exact m _ _ _ _ _ k d
  |goto l=>exact m _ _ _ _ _ k d
  |ret=>exact m _ _ _ _ _ k d
  |panic c=>exact m _ _ _ _ _ k d
  |outgrown=>exact m _ _ _ _ _ k d
theorem Yh{V:Array Oper}{Q:S->Prop}(h:Q s):qb K V [] s Q:=λc a w _ d e=>e s c a w h d
theorem Rel.bool(i:Rel K β s a w)(h:s.t t= .t (.bool b)):a.tmps[t]? =some (.bool b):=by
  have d:=i.cZ t;rw[h] at d;have c:=nw d;rw[pM] at c;cases e:a.tmps[t]? with
  |none=>rw[e] at c;simp[undef] at c
  |some x=>rw[e] at c;simp at c;rw[c]
theorem ML{D:Map}:bn D w X (.bL []) undef:= .bL [] #[] rfl λi c u h _=>by simp at h
theorem Rel.afS(h:Rel K β s a w){ops:Array Oper}{j:Nat}{want:Bool}(i:(ops[j]?).bind (·.dst)=some t)(k:s.t t= .bL []):yielded ops a.tmps j≠some want:=by
  have c:=h.cZ t;rw[k] at c;have e:a.tmps.getD t undef= .tuple #[]:=by
    generalize a.tmps.getD t undef=y at c;cases c with
    |bL _ l m _=>
      have:l= #[]:=by simpa using m
      rw[this]
  have n: ∀b,a.tmps[t]? ≠some (.bool b):=by
    intro b o;rw[pM,o] at e;simp at e
  unfold yielded;rw[i];cases d:a.tmps[t]? with
  |none=>simp[d]
  |some y=>
    cases y<;>simp[d];exact bB d (n _)
def g':Map:=⟨λ_=>none,λ_ _=>False⟩
theorem FG{b:Nat}(h:At g' i b):False:=by
  rcases h with ⟨_,h⟩|h
  · simp[g'] at h
  · exact h
def Ek(P:Program)(G:fe)(f:FuncId)(args:List V)(r:V):Prop:=
  ∀(w:World) (X:Nat->Prop) (a:List Value),G.ok w->(∀b,X b->b<w.heap.size)->dw g' w X args a->
    Calls P f a.toArray w λe c=> ∃u,e= .returned u/\Ext (λ_=>False) w c/\bn g' c X r u
theorem bn.any{Y:Nat->Prop}{x:V}{v:Value}(h:bn g' w X x v)(a: ∀b,Y b->X b):bn β w Y x v:=
  h.mono (Ext.refl _ _) (λb _=>a b) (λ_ _ _ h=>by simp[g'] at h) (Shaped.refl _ _)
theorem dw.It: ∀{β:Map} {w:World} {X:Nat->Prop} {a:List V} {d:List Value},dw β w X a d->gz gx a=true->dw g' w X a d
  |_,_,_,[],[],_,_=>trivial
  |_,_,_,_::_,_::_,h,c=>by
    simp[gz] at c;exact⟨h.1.under (u:=gx) (λ_ h=>h) (λ_ h=>by simp[gx] at h) c.1,dw.It h.2 c.2⟩
  |_,_,_,[],_::_,h,_=>h.elim
  |_,_,_,_::_,[],h,_=>h.elim
theorem Rel.grow{w':World}(h:Rel K β s a w)(e:Ext (λ_=>False) w w'):Rel K β s a w':=by
  have c:Ext (own K β s.H) w w':=e.weaken λ_ _ h=>h.elim;refine {h with ext:=h.ext.trans (e.weaken λ_ _ h=>h.elim),iW:=h.iW.ext h.ext.size e,fresh:= ?_,heap:= ?_,cZ:= ?_}
  · intro id b d;exact⟨(h.fresh id b d).1,l6 (h.fresh id b d).2 e.size⟩
  · intro id k l;obtain⟨m,n⟩:=h.heap id k l;exact⟨m,n.mono c (λ_ _ h=>h) (dv.refl _) (λ_ h=>h) (qo e) λb d=>e.keep b (h.fresh id b d).2 λh=>h⟩
  · intro i;exact(h.cZ i).mono c (λ_ _ h=>h) (dv.refl _) (qo e)
theorem dT.call{o:Oper}{f:FuncId}{d:Func}{c:Array Operand}{k:Array TypeId}{vals:List V}{r:V}
    (A:o.op= .call {callee:= .value (.func f),args:=c,argTypes:=k}) (B:K.P.funcs[f]? =some d) (C:(d.name== "runtime.NumGoroutine")=false) (q:d.body.isNone=false)
    (D: ∀i,o.dst=some i->Nat.blt i K.nt=true) (F:fr (c.toList.map s.get) vals) (I:gz gx vals=true) (h:Ek K.P K.G f vals r):dT K o s (s.put o.dst r):=by
  intro x a w next Q m L
  have y:d.name≠ "runtime.NumGoroutine" :=by simpa using C
  have z:d.body≠none:=by intro e;simp[e] at q
  have n:(execOp a.eval o).run K.P w= .ok (.enter f (c.map a.eval)) w:=by
    simp[execOp,A,resolve,Deferred.ofValue,Act.eval,invoke,callFunc,B,y,z]
  unfold Oper.wp;rw[n,Oper.upon_enter];have l:=(dw.le (m.oh c.toList) F).It I;have R: ∀b,own K x s.H b->b<w.heap.size:=by
    rintro b (U|⟨id,_,q⟩)
    · exact l6 (m.iD b U).1 m.ext.size
    · exact(m.fresh id b q).2
  have bP:=h w (own K x s.H) _ m.BH R l;have W:(List.map a.eval c.toList).toArray=c.map a.eval:=by rw[<-vD]
  rw[W] at bP;refine bP.mono ?_;rintro e X ⟨u,rfl,p,Y⟩;exact L x _ X ((m.grow p).put o.dst D (Y.any λ_ h=>h))
def tt:List V->Nat->(Nat->V)
  | [],_=>pD
  |v::a,i=>aU (tt a (i+1)) i v
theorem D2{D:Map}{w:World}{X:Nat->Prop}: ∀(a:List V) (c:List Value) (i:Nat),dw D w X a c-> ∀j,bn D w X (tt a i (i+j)) (c.getD j undef)
  | [],_,_,_,_=> .c4 _
  |v::a,u::c,i,h,0=>by
    rw[oL,tt,bW];exact h.1
  |v::a,u::c,i,h,j+1=>by
    rw[tt,bX _ _ _ _ O,show i+(j+1)=(i+1)+j by omega];simpa using D2 a c (i+1) h.2 j
  |_::_,[],_,h,_=>h.elim
theorem dw.length: ∀{β:Map} {w:World} {X:Nat->Prop} {vs:List V} {a:List Value},dw β w X vs a->a.length=vs.length
  |_,_,_,[],[],_=>rfl
  |_,_,_,_::_,_::_,h=>by simp[dw.length h.2]
  |_,_,_,[],_::_,h=>h.elim
  |_,_,_,_::_,[],h=>h.elim
def Ctx.pure(P:Program)(G:fe)(w:World)(X:Nat->Prop)(nt:Nat):Ctx:={P,G,w0:=w,X,c':=0,gU:=g',nt}
def start(args:List V):S:={t:=tt args 0,H:=oO,u:=gx}
theorem Rel.start{G:fe}{nt:Nat}{args:List V}{a:List Value}(k:G.ok w)(l: ∀b,X b->b<w.heap.size)(h:dw g' w X args a)(o:a.length<=nt):
    Rel (Ctx.pure P G w X nt) g' (Lift.start args) {tmps:=a.toArray++Array.replicate (nt-a.toArray.size) undef,defers:=[]} w:=by
  have d: ∀b,¬(Ctx.pure P G w X nt).M b:=by rintro b ⟨id,h,_⟩;simp[Ctx.pure] at h
  refine {ext:=Ext.refl _ _,oi:=k,ow:=λb h=>bB h (d b),iD:=λb h=>⟨l b h,d b⟩,base:=kp.refl _ _ _,iW:=Shaped.refl _ _,low:=λ_ h=>bB h (q5 _),dL:=λ_ _=>rfl,
           ed:=λ_ _ _ h=>h,qC:=λ_ _ _ h=>(FG h).elim,inj:=λ_ _ _ h=>(FG h).elim,fresh:=λ_ _ h=>(FG h).elim,heap:=λ_ _ h=>by simp[Lift.start,oO] at h,cZ:= ?_,nt:= ?_,defers:=rfl}
  · intro i;have c:=D2 args a 0 h i;rw[dt] at c;have m:(a.toArray++Array.replicate (nt-a.toArray.size) undef).getD i undef=a.getD i undef:=by
      simp only[Array.getD_eq_getD_getElem?,List.getD_eq_getElem?_getD,Array.getElem?_append];by_cases e:i<a.length
      · rw[a1 (by simpa using e)];simp
      · rw[aY (by simpa using e)];rw[yI];rw[q8 O];split<;>rfl
    simp only[m];refine c.mono (Ext.refl _ _) ?_ (dv.refl _) (Shaped.refl _ _);rintro b _ (n|⟨id,c,_⟩)
    · exact n
    · simp[Lift.start,oO] at c
  · simp[Ctx.pure];omega
end rules
end
section
def cd(P:Program)(t:TypeId)(u:TypeDesc)(z:Value)(c a:Nat):Prop:=
 P.underlying t=some u/\ ∃i,P.info? t=some i/\i.zero=some z/\i.size=c/\i.bytes=a
variable {n b i L gen k:Nat}{a:Act}{v:V}{D β:Map}{X:Nat->Prop}{q:Option Nat}
theorem cd.of{P:Program}{t:TypeId}{u:TypeDesc}{z:Value}{bytes:Nat}(h:P.underlying t=some u)(a:(P.info? t).map (λi=>(i.zero,i.size,i.bytes))=some (some z,n,bytes)):cd P t u z n bytes:=by
 cases c:P.info? t with
 |none=>rw[c] at a;cases a
 |some i=>
  rw[c] at a;simp only[Option.map_some,Option.some.injEq,Prod.mk.injEq] at a;exact⟨h,i,c,a.1,a.2.1,a.2.2⟩
def kt:TypeDesc->Bool
 | .struct _=>true
 | .array _ _=>true
 |_=>false
section runs
variable {P:Program} {t:TypeId} {u:TypeDesc} {z:Value} {size bytes:Nat} (w:World)
theorem cd.CQ(h:cd P t u z size bytes):(isAgg t).run P w= .ok (kt u) w:=by obtain⟨a,_⟩:=h;simp only[isAgg,Sem.run_bind,run_underlying a,Result.andThen_ok];cases u<;>rfl
theorem cd.run_sizeOf(h:cd P t u z size bytes):(sizeOf t).run P w= .ok size w:=by obtain⟨_,i,a,e,c,k⟩:=h;simp[sizeOf,typeInfo,a,c]
theorem cd.sT(h:cd P t u z size bytes):(zeroValue t).run P w= .ok z w:=by obtain⟨_,i,a,c,e,k⟩:=h;simp[zeroValue,typeInfo,a,c]
theorem cd.CR(h:cd P t u z size bytes)(c:kt u=false){a:Addr}{v:Value}(e:w.cell? a=some v):(loadVar t a).run P w= .ok v w:=by simp only[loadVar,Sem.run_bind,h.CQ,Result.andThen_ok,c];simp[e]
theorem jh(b o i:Nat):(⟨b,o,none⟩:Addr).add i=⟨b,o+i,none⟩:=by unfold Addr.add;split<;>simp_all
theorem cd.CS(h:cd P t u z size bytes)(a:kt u=true){o:Nat}{f:Nat->Value}(c: ∀j,j<size->w.cell? ⟨b,o+j,none⟩=some (f j)):
  (loadVar t ⟨b,o,none⟩).run P w= .ok (.agg ((List.range size).map f).toArray) w:=by simp only[loadVar,Sem.run_bind,h.CQ,h.run_sizeOf,Result.andThen_ok,a,if_true];rw[run_loadCells w ⟨b,o,none⟩ size f λj e=>by rw[jh];exact c j e];rfl
end runs
section nO
variable {P:Program} {H:Nat->Option E} {d:Option Tmp} {ty:TypeId} {pos:String} {af:Array Edge} {g:Option (Nat×Bool)}
variable {t:TypeId} {u:TypeDesc} {z:Value} {size bytes:Nat}
theorem rn{w:World}{u:Value}(h:bn D w X (.ref n i) u): ∃b,D n=some (some b,0)/\u= .pointer (some ⟨b,i,none⟩):=by cases h with|ref _ _ b a=>exact⟨b,a,rfl⟩
theorem oB{w:World}{u:Value}(h:bn D w X (.cC L gen n i k) u)(a:D L=some (q,gen)): ∃b,q=some b/\u= .pointer (some ⟨b,i*n+k,none⟩):=by
 cases h with
 |cC _ _ _ _ _ b e c=>rw[c] at a;cases a;exact⟨b,rfl,rfl⟩
 |lI _ _ _ _ _ _ l g m c e=>rw[c] at a;cases a;omega
theorem jq{w:World}{c:TypeId}{a:List (List T)}(h:cH D w X n (.arr c gen i a)): ∃q,D n=some (q,gen):=by
 rcases h.2 with ⟨e,_⟩|⟨b,k,e,_⟩
 ·exact⟨_,e⟩
 exact⟨_,e⟩
theorem Gp{w:World}{a:List T}{u:Value}(h:bn D w X (.aQ a) u): ∃(b c:Nat) (f:Nat->Value),u= .pointer (some ⟨b,c,none⟩)/\b<w.heap.size/\ ¬X b/\
  (∀j,j<a.length->w.cell? ⟨b,c+j,none⟩=some (f j))/\ ∀(j:Nat) (x:T),a[j]? =some x->cX w X x (f j):=by cases h with|aQ _ b c f e i k l=>exact⟨b,c,f,rfl,e,i,k,l⟩
theorem Y7(x:Operand)(i a:Nat)(k:List V)(c:V)(p:cd P t u z size bytes)(q:kt u=false)(r:H i=some (.cells k))(m:k[a]? =some c):
  b9 P H ⟨d,.load t x,ty,pos,af,g⟩ [.ref i a] c:=by
 intro I w X L y A;obtain⟨b,B,C⟩:=rn A.1;obtain⟨Q,l,D,n,F,o,G⟩:=y i _ r;rw[B] at n;cases n;have h:a<k.length:=(bR.1 m).1;have e:w.cell? ⟨b,a,none⟩=some l[a]:=by simp[World.cell?,F,o,h]
 refine⟨l[a],?_,G a c l[a] m (by simp[o,h])⟩;simp[execOp,C,Instr.loadAt,Instr.sureAddr,p.CR w q e]
theorem Y6(x:Operand)(l a:Nat)(k:List V)(q:cd P t u z size bytes)(r:kt u=true)(y:H l=some (.cells k))(A:Nat.ble (a+size) k.length=true):
  b9 P H ⟨d,.load t x,ty,pos,af,g⟩ [.ref l a] (.agg ((k.drop a).take size)):=by
 intro R w X U B C;obtain⟨b,D,F⟩:=rn C.1;obtain⟨W,m,G,n,I,Y,L⟩:=B l _ y;rw[D] at n;cases n;have Q:a+size<=k.length:=ea A;have e: ∀j,j<size->w.cell? ⟨b,a+j,none⟩=some (m.getD (a+j) undef):=λj f=>by
  have:a+j<m.size:=O
  simp[World.cell?,I,this]
 refine⟨_,by simp[execOp,F,Instr.loadAt,Instr.sureAddr,q.CS w r e];rfl,?_⟩;refine .agg _ _ bQ λi c v h o=>?_;have p:i<size:=by
  have:=(bR.1 h).1;simp at this;omega
 rw[De p,fZ] at h;simp only[List.getElem?_toArray,List.getElem?_map,List.getElem?_range p,Option.map_some,Option.some.injEq] at o
 have:a+i<m.size:=O
 exact L (a+i) c v h (by rw[<-o];simp[this])
theorem UW(x:Operand)(c:T)(r:List T)(a:cd P t u z size bytes)(e:kt u=false):b9 P H ⟨d,.load t x,ty,pos,af,g⟩ [.aQ (c::r)] (.t c):=by intro o w X p q h;obtain⟨b,i,f,k,y,A,l,m⟩:=Gp h.1;have n:=l 0 aV;refine⟨f 0,?_,.t _ _ (m 0 c aV)⟩;simp only[execOp,k,Instr.loadAt,Instr.sureAddr,Sem.run_bind,Sem.run_pure,Result.andThen_ok];rw[a.CR w e (v:=f 0) (by simpa using n)];rfl
theorem UU(x:Operand)(h:List T)(n:cd P t u z size bytes)(o:kt u=true)(B:size<=h.length):
  b9 P H ⟨d,.load t x,ty,pos,af,g⟩ [.aQ h] (.agg ((h.take size).map .t)):=by
 intro C w X D F p;obtain⟨b,q,f,r,G,I,k,y⟩:=Gp p.1;refine⟨.agg ((List.range size).map f).toArray,?_,.agg _ _ bQ λi c v a l=>?_⟩
 ·simp only[execOp,r,Instr.loadAt,Instr.sureAddr,Sem.run_bind,Sem.run_pure,Result.andThen_ok];rw[n.CS w o (f:=f) λj L=>k j O];rfl
 have m:i<size:=by
  have:=(bR.1 a).1;simp at this;omega
 rw[ey,De m] at a;simp only[List.getElem?_toArray,List.getElem?_map,List.getElem?_range m,Option.map_some,Option.some.injEq] at l;cases e:h[i]? with
 |none=>rw[e] at a;simp at a
 |some A=>rw[e] at a;simp at a;rw[<-a,<-l];exact .t _ _ (y i A e)
theorem TY(x:Operand)(n gen i a:Nat)(o:TypeId)(sz:Nat)(e:List (List T))(h:List T)(c:T)(G:cd P t u z size bytes)(I:kt u=false)(B:H n=some (.arr o gen sz e))(l:e[i]? =some h)(C:h[a]? =some c):
  b9 P H ⟨d,.load t x,ty,pos,af,g⟩ [.cC n gen sz i a] (.t c):=by
 intro Y w X f D L;obtain⟨q,F⟩:=jq (D n _ B);obtain⟨b,p,Q⟩:=oB L.1 F;subst p;have a':=F;rcases(D n _ B).2 with ⟨r,y⟩|⟨j,A,r,y,v,R,U⟩
 ·rw[y] at l;simp at l
 rw[a'] at r;cases r;have W:i<e.length:=(bR.1 l).1;have M:a<sz:=by
  have:=(bR.1 C).1;rw[R h (bE l)] at this;exact this
 have m:i*sz+a<A.size:=by
  have:(i+1)*sz<=e.length*sz:=dA _ W;rw[dp] at this;omega
 have k:w.cell? ⟨b,i*sz+a,none⟩=some A[i*sz+a]:=by simp[World.cell?,y,m]
 refine⟨A[i*sz+a],?_,.t _ _ (U i a h c _ l C (by simp[m]))⟩;simp[execOp,Q,Instr.loadAt,Instr.sureAddr,G.CR w I k]
theorem Ui(x:Operand)(o c k a:Nat)(p:Array Field)(e:Field)(q:TypeDesc)(r:Value)(h l:Nat)(y:P.underlying t=some (.struct p))(A:p[k]? =some e)(B:e.offset=a)(m:cd P e.type q r h l)(n:(h==0)=false):
  b9 P H ⟨d,.fieldAddr t x k,ty,pos,af,g⟩ [.ref o c] (.ref o (c+a)):=by
 intro G w X I L C;obtain⟨b,D,F⟩:=rn C.1;have i:h≠0:=by simpa using n
 refine⟨.pointer (some ⟨b,c+a,none⟩),?_,.ref _ _ _ D⟩;simp[execOp,F,Instr.fieldAt,run_underlying y,A,Instr.sureAddr,fieldPlace,m.run_sizeOf,i,jh,B]
theorem UZ(x:Operand)(r:List T)(k a:Nat)(y:Array Field)(e:Field)(A:TypeDesc)(B:Value)(i n:Nat)(C:P.underlying t=some (.struct y))(D:y[k]? =some e)(F:e.offset=a)(o:cd P e.type A B i n)(p:(i==0)=false):
  b9 P H ⟨d,.fieldAddr t x k,ty,pos,af,g⟩ [.aQ r] (.aQ (r.drop a)):=by
 intro W w X Y v G;have l:i≠0:=by simpa using p
 obtain⟨b,m,f,I,L,Q,q,R⟩:=Gp G.1;refine⟨.pointer (some ⟨b,m+a,none⟩),?_,.aQ _ b (m+a) (λj=>f (a+j)) L Q (λj U=>?_) λj c h=>?_⟩
 ·simp[execOp,I,Instr.fieldAt,run_underlying C,D,Instr.sureAddr,fieldPlace,o.run_sizeOf,l,jh,F]
 ·rw[pP];exact q (a+j) (by simp at U;omega)
 exact R (a+j) c (by simpa using h)
theorem T0(x:Operand)(l gen o i c k a:Nat)(C:Array Field)(e:Field)(I:TypeDesc)(L:Value)(h p:Nat)(Q:P.underlying t=some (.struct C))(R:C[k]? =some e)(U:e.offset=a)(r:cd P e.type I L h p)(y:(h==0)=false)
  (A:TypeId) (m:List (List T)) (D:H l=some (.arr A gen o m)):b9 P H ⟨d,.fieldAddr t x k,ty,pos,af,g⟩ [.cC l gen o i c] (.cC l gen o i (c+a)):=by
 intro f w X j F W;obtain⟨q,G⟩:=jq (F l _ D);obtain⟨b,B,Y⟩:=oB W.1 G;subst B;have a':=G;have n:h≠0:=by simpa using y
 refine⟨.pointer (some ⟨b,i*o+(c+a),none⟩),?_,.cC _ _ _ _ _ _ (F l _ D).1 a'⟩;simp[execOp,Y,Instr.fieldAt,run_underlying Q,R,Instr.sureAddr,fieldPlace,r.run_sizeOf,n,jh,U,Nat.add_assoc]
theorem UY(x y:Operand)(e:TypeId)(k:List (List T))(l:List T)(n:Nat)(C:P.underlying t=some (.slice e))(D:cd P e u z size bytes)(o:k[n]? =some l)(F:l.length=size):
  b9 P H ⟨d,.indexAddr t x y,ty,pos,af,g⟩ [.t (.aD k),.t (.int .i64 (n:Nat))] (.aQ l):=by
 intro Y w X G M A;have cJ:=dF A.2.1;have I:n<k.length:=(bR.1 o).1;cases A.1 with
 |t _ _ h=>
  generalize L:G x=v at h;cases h with
  |fY a p=>simp at o
  |aD _ b m i p f Q R B q U r=>
   have W:i=size:=by rw[<-F];exact(q l (bE o)).symm
   subst W;refine⟨.pointer (some ⟨b,m+n*i,none⟩),?_,.aQ _ b (m+n*i) (λj=>f n j) Q R (λj N=>U n j I O) λj c h=>r n j l c o h⟩;simp[execOp,L,cJ,Instr.indexAt,asIntOf,run_underlying C,D.run_sizeOf,jh];intro h;omega
theorem fa{w:World}{m:Nat}{u:Value}(h:bn D w X (.bc m gen i k L) u)(c:D m=some (q,gen)):
  (∃a b n ty,u= .slice (some ⟨b,k*i,none⟩) L a/\q=some b/\b<w.heap.size/\w.shape? b=some (ty,n)/\(k+a)*i=n/\L<=a/\a<=maxLen)\/
  (q=none/\k=0/\L=0/\u= .slice none 0 0):=by
 cases h with
 |bc _ _ _ _ _ a b n ty l e o p r x y=>rw[e] at c;cases c;exact .inl ⟨a,b,n,ty,rfl,rfl,o,p,r,x,y⟩
 |hz _ _ _ l e=>rw[e] at c;cases c;exact .inr ⟨rfl,rfl,rfl,rfl⟩
 |lh _ _ _ _ _ _ A g B e l=>rw[e] at c;cases c;omega
theorem Ug(x y:Operand)(e:TypeId)(c gen a i n:Nat)(o:TypeId)(k:List (List T))(A:H c=some (.arr o gen size k))(F:P.underlying t=some (.slice e))(G:cd P e u z size bytes)(U:n<i):
  b9 P H ⟨d,.indexAddr t x y,ty,pos,af,g⟩ [.bc c gen size a i,.t (.int .i64 (n:Nat))] (.cC c gen size (a+n) 0):=by
 intro W w X I B p;have cJ:=dF p.2.1;generalize C:I x=v at p;have l:=p.1;simp only[C] at l;obtain⟨q,D⟩:=jq (B c _ A);rcases fa l D with ⟨L,b,m,Q,rfl,r,Y,f,R,j,M⟩|⟨_,_,N,_⟩
 ·subst r;refine⟨.pointer (some ⟨b,(a+n)*size+0,none⟩),?_,.cC _ _ _ _ _ b (B c _ A).1 D⟩;simp[execOp,C,cJ,Instr.indexAt,asIntOf,run_underlying F,G.run_sizeOf,jh,Nat.add_mul];intro h;omega
 omega
end nO
def V.one:V->Bool
 | .t _=>true
 | .ref _ _=>true
 | .aQ _=>true
 | .bc _ _ _ _ _=>true
 | .cC _ _ _ _ _=>true
 | .fn _ _=>true
 | .agg _=>false
 | .bL _=>false
 | .c4=>false
def nF:List V->Bool
 | []=>true
 |v::a=>v.one&&nF a
theorem zc: ∀{c:List V} {i:Nat} {v:V},nF c=true->c[i]? =some v->v.one=true
 |v::c,0,_,h,a=>by simp at a;subst a;simp[nF] at h;exact h.1
 |v::c,i+1,_,h,a=>by simp at a;simp[nF] at h;exact zc h.2 a
 | [],_,_,_,a=>by simp at a
def V.cs:V->List V
 | .agg cs=>cs
 |v=>[v]
def V.val:V->Bool
 | .agg _=>true
 |v=>v.one
theorem bn.iU{w:World}{u:Value}(h:bn β w X v u)(a:v.one=true):u.oneCell'=true:=by
 cases h with
 |t x v h=>cases h<;>rfl
 |agg=>cases a
 |bL=>cases a
 |ref=>rfl
 |aQ=>rfl
 |bc=>rfl
 |hz=>rfl
 |lh=>assumption
 |cC=>rfl
 |lI=>assumption
 |fn=>rfl
 |c4=>cases a
theorem vv{u:Value}(h:u.oneCell'=true):u.cells= #[u]:=by cases u<;>first|rfl|cases h
theorem bn.cells{w:World}{u:Value}(h:bn β w X v u)(m:v.val=true):
  u.cells.size=v.cs.length/\ ∀(i:Nat) c x,v.cs[i]? =some c->u.cells[i]? =some x->bn β w X c x:=by
 cases v with
 |agg cs=>
  cases h with|agg _ p o h=>exact⟨o,h⟩
 |bL=>cases m
 |c4=>cases m
 |t x=>
  have:=vv (h.iU rfl);rw[this];exact⟨rfl,λi c y k l=>by cases i with|zero=>simp[V.cs] at k l;subst k;subst l;exact h|succ n=>simp[V.cs] at k⟩
 |ref a b=>
  have:=vv (h.iU rfl);rw[this];exact⟨rfl,λi c y k l=>by cases i with|zero=>simp[V.cs] at k l;subst k;subst l;exact h|succ n=>simp[V.cs] at k⟩
 |aQ a=>
  have:=vv (h.iU rfl);rw[this];exact⟨rfl,λi c y k l=>by cases i with|zero=>simp[V.cs] at k l;subst k;subst l;exact h|succ n=>simp[V.cs] at k⟩
 |bc a b c d e=>
  have:=vv (h.iU rfl);rw[this];exact⟨rfl,λi c y k l=>by cases i with|zero=>simp[V.cs] at k l;subst k;subst l;exact h|succ n=>simp[V.cs] at k⟩
 |cC a b c d e=>
  have:=vv (h.iU rfl);rw[this];exact⟨rfl,λi c y k l=>by cases i with|zero=>simp[V.cs] at k l;subst k;subst l;exact h|succ n=>simp[V.cs] at k⟩
 |fn a b=>
  have:=vv (h.iU rfl);rw[this];exact⟨rfl,λi c y k l=>by cases i with|zero=>simp[V.cs] at k l;subst k;subst l;exact h|succ n=>simp[V.cs] at k⟩
def S.new(s:S)(k:Nat)(e:E):S:={t:=s.t,H:=aU s.H k (some e),u:=aU s.u k true}
theorem Rel.Is{K:Ctx}{s:S}{w:World}(h:Rel K β s a w)(k y:Nat)(Q:s.u k=false)(R:Array Value)(U:TypeId)(e:E)
  (N: ∀(p:Map) (j:Nat->Prop) (W:World),W=w.alloc (.cells R U)->p k=some (some w.heap.size,y)->(∀v u,bn β w (own K β s.H) v u->bn p W j v u)->(∀b,¬p.n k b)->cH p W j k e):
  Rel K (β.put k (some (some w.heap.size,y))) (s.new k e) a (w.alloc (.cells R U)):=by
 have l: ∀X,Ext X w (w.alloc (.cells R U)):=λX=>Ext.alloc X w _;have A:β k=none:=h.dL _ Q;have q: ∀id x,β id=some x->β.put k (some (some w.heap.size,y)) id=some x:=λid x F=>by
  rw[ep _ _ _ _ (by intro e;subst e;rw[A] at F;cases F)];exact F
 have G:=dv.of q;have m: ∀id b,At (β.put k (some (some w.heap.size,y))) id b->(id=k/\b=w.heap.size)\/(id≠k/\At β id b):=λid b a'=>by
  by_cases B:id=k
  ·subst B;rcases a' with ⟨g,a'⟩|a'
   ·rw[jg] at a';cases a';exact .inl ⟨rfl,rfl⟩
   exact bB a' (h.ed _ _ Q)
  refine .inr ⟨B,?_⟩;rcases a' with ⟨g,a'⟩|a'
  ·rw[ep _ _ _ _ B] at a';exact .inl ⟨g,a'⟩
  exact .inr a'
 have r: ∀b,b<w.heap.size->own K (β.put k (some (some w.heap.size,y))) (aU s.H k (some e)) b->own K β s.H b:=by
  rintro b T (F|⟨id,D,I⟩)
  ·exact .inl F
  rcases m id b I with ⟨rfl,rfl⟩|⟨Y,C⟩
  ·omega
  rw[bX _ _ _ _ Y] at D;exact .inr ⟨id,D,C⟩
 have L: ∀v u,bn β w (own K β s.H) v u->bn (β.put k (some (some w.heap.size,y))) (w.alloc (.cells R U)) (own K (β.put k (some (some w.heap.size,y))) (aU s.H k (some e))) v u:=
  λv u V=>V.mono (l _) r G (qo (l _))
 refine {ext:=h.ext.trans ((l λ_=>False).weaken λ_ _ h=>h.elim),oi:=h.oi,ow:=h.ow,iD:=h.iD,qC:=h.qC,base:= ?_,iW:=h.iW.ext h.ext.size (l _),low:= ?_,dL:= ?_,ed:= ?_,inj:= ?_,fresh:= ?_,heap:= ?_,cZ:=λi=>L _ _ (h.cZ i),nt:=h.nt,defers:=h.defers}
 ·refine h.base.keep λid hid=>?_
  have:=h.low id hid;rw[ep _ _ _ _ (by intro e;subst e;rw[Q] at this;cases this)]
 ·intro id hid;show aU s.u k true id=true;by_cases e:id=k
  ·subst e;exact bW _ _ _
  rw[bX _ _ _ _ e];exact h.low id hid
 ·intro id hid;have c:aU s.u k true id=false:=hid;by_cases e:id=k
  ·subst e;rw[bW] at c;cases c
  rw[bX _ _ _ _ e] at c;rw[ep _ _ _ _ e];exact h.dL id c
 ·intro id b hid;have c:aU s.u k true id=false:=hid;by_cases e:id=k
  ·subst e;rw[bW] at c;cases c
  rw[bX _ _ _ _ e] at c;exact h.ed id b c
 ·intro id f b D I;rcases m id b D with ⟨rfl,rfl⟩|⟨_,C⟩<;>rcases m f _ I with ⟨rfl,e⟩|⟨_,M⟩
  ·rfl
  ·have:=(h.fresh _ _ M).2;omega
  ·subst e;have:=(h.fresh _ _ C).2;omega
  exact h.inj _ _ _ C M
 ·intro id b a';rcases m id b a' with ⟨rfl,rfl⟩|⟨_,C⟩
  ·exact⟨.inr h.ext.size,aV⟩
  exact⟨(h.fresh _ _ C).1,by have:=(h.fresh _ _ C).2;simp;omega⟩
 intro id e' o;have o:aU s.H k (some e) id=some e':=o;show aU s.u k true id=true/\cH _ _ (own K _ (aU s.H k (some e))) id e';by_cases B:id=k
 ·subst B;rw[bW] at o;cases o;exact⟨bW _ _ _,N _ _ _ rfl (jg _ _ _) L λb=>h.ed _ b Q⟩
 rw[bX _ _ _ _ B] at o;obtain⟨D,I⟩:=h.heap id e' o;exact⟨by rw[bX _ _ _ _ B];exact D,I.mono (l _) r G (q id) (qo (l _)) λb a'=>yE _ _ _ (h.fresh id b a').2⟩
theorem Rel.new{K:Ctx}{s:S}{w:World}(h:Rel K β s a w)(k m:Nat)(p:s.u k=false)(n:Array Value)(o:TypeId)(e:E)
  (q: ∀(c:Map) (l:Nat->Prop) (i:World),i=w.alloc (.cells n o)->c k=some (some w.heap.size,m)->(∀v u,bn β w (own K β s.H) v u->bn c i l v u)->cH c i l k e):
  Rel K (β.put k (some (some w.heap.size,m))) (s.new k e) a (w.alloc (.cells n o)):=
 h.Is k m p n o e λc l i r x y _=>q c l i r x y
theorem Rel.Cu{K:Ctx}{s:S}{w:World}(h:Rel K β s a w)(k:Nat)(o:s.u k=false)(e:Array Value)(l:TypeId)(m:List V)(p:e.size=m.length)
  (q: ∀(i:Nat) c u,m[i]? =some c->e[i]? =some u->bn β w (own K β s.H) c u):
  Rel K (β.put k (some (some w.heap.size,0))) (s.new k (.cells m)) a (w.alloc (.cells e l)):=
 h.new k 0 o e l _ λr C D x y n=>⟨w.heap.size,e,l,y,by subst x;exact jB _ _,p,λi c u A B=>n _ _ (q i c u A B)⟩
section ops
variable {K:Ctx} {s:S} {d:Option Tmp} {ty:TypeId} {pos:String} {af:Array Edge} {g:Option (Nat×Bool)}
variable {t:TypeId} {u:TypeDesc} {z:Value} {size bytes:Nat}
theorem abi(k:Nat)(e:s.u k=false)(x:Operand)(v:V)(l: ∀i,d=some i->Nat.blt i K.nt=true)(m:s.get x=v)(n:v.val=true):
  dT K ⟨d,.box t x,ty,pos,af,g⟩ s ((s.new k (.cells v.cs)).put d (.ref k 0)):=by
 intro r a w next Q h o
 subst m;obtain⟨p,q⟩:=(h.get x).cells n;unfold Oper.wp;have c:(execOp a.eval ⟨d,.box t x,ty,pos,af,g⟩).run K.P w= .ok (.value (.pointer (some ⟨w.heap.size,0,none⟩))) (w.alloc (.cells (a.eval x).cells t)):=by
  simp[execOp,Instr.box,newVar,newRow]
 rw[c];exact o _ _ _ ((h.Cu k e _ t _ p q).put d l (.ref _ _ _ (bW _ _ _)))
theorem ZL(k:Nat)(e:s.u k=false)(l: ∀i,d=some i->Nat.blt i K.nt=true)(m:cd K.P t u z size bytes)(n:(gX z).val=true):
  dT K ⟨d,.alloc t,ty,pos,af,g⟩ s ((s.new k (.cells (gX z).cs)).put d (.ref k 0)):=by
 intro h a w next Q o p
 obtain⟨q,r⟩:=(yx h w (own K h s.H) z).cells n;unfold Oper.wp;have c:(execOp a.eval ⟨d,.alloc t,ty,pos,af,g⟩).run K.P w= .ok (.value (.pointer (some ⟨w.heap.size,0,none⟩))) (w.alloc (.cells z.cells t)):=by
  simp[execOp,Instr.alloc,m.sT,newVar,newRow]
 rw[c];exact p _ _ _ ((o.Cu k e _ t _ q r).put d l (.ref _ _ _ (bW _ _ _)))
def mO(c:List V)(a:Nat)(e:List V):List V:=c.take a++e++c.drop (a+e.length)
theorem DG{w:World}{a c:Array Value}{e:TypeId}(l:w.heap[b]? =some (.cells a e (0,0)))(i:c.size=a.size)(k:Nat):(w.setRow b c).shape? k=w.shape? k:=by
 by_cases h:k=b
 ·subst h;unfold World.shape?;rw[setRow_heap _ _ _ _ _ _ l,l];simp[i]
 exact x0 (setRow_other _ _ _ _ h)
theorem Rel.setRow{K:Ctx}{s:S}{w:World}(h:Rel K β s a w)(m b:Nat)(L:At β m b)(B:Array Value)(Y:TypeId)(Q:w.heap[b]? =some (.cells B Y (0,0)))(q:Array Value)(C:q.size=B.size)(e:E)(R:s.H m≠none)
  (f:cH β (w.setRow b q) (own K β s.H) m e):Rel K β {s with H:=aU s.H m (some e)} a (w.setRow b q):=by
 have r:own K β s.H b:= .inr ⟨m,R,L⟩;have p:Ext (own K β s.H) w (w.setRow b q):=⟨rfl,rfl,rfl,aV,λk _ y=>setRow_other _ _ _ _ λe=>y (e▸r)⟩
 have D:Shaped β w (w.setRow b q):=by
  intro l _;by_cases F:l=b
  ·subst F;unfold World.shape?;rw[setRow_heap _ _ _ _ _ _ Q,Q];simp[C]
  exact x0 (setRow_other _ _ _ _ F)
 have o: ∀l,own K β (aU s.H m (some e)) l->own K β s.H l:=by
  rintro l (y|⟨c,x,I⟩)
  ·exact .inl y
  by_cases A:c=m
  ·subst A;exact .inr ⟨c,R,I⟩
  rw[bX _ _ _ _ A] at x;exact .inr ⟨c,x,I⟩
 have U: ∀v u,bn β w (own K β s.H) v u->bn β (w.setRow b q) (own K β (aU s.H m (some e))) v u:=λv u j=>j.mono p (λl _=>o l) (dv.refl _) D;have N:K.M b\/K.w0.heap.size<=b:=(h.fresh m b L).1;refine {h with ext:=h.ext.trans' ⟨rfl,rfl,rfl,aV,λk hk y=>setRow_other _ _ _ _ ?_⟩,iW:=λl T=>(DG Q C l).trans (h.iW l T),fresh:= ?_,heap:= ?_,cZ:=λi=>U _ _ (h.cZ i)}
 ·intro e;subst e;rcases N with x|x
  ·exact y λG=>G.2 x
  exact y λG=>O
 ·intro c l X;exact⟨(h.fresh c l X).1,by have:=(h.fresh c l X).2;simpa using this⟩
 intro c e' n;have n:aU s.H m (some e) c=some e':=n;show s.u c=true/\cH β (w.setRow b q) (own K β (aU s.H m (some e))) c e';by_cases A:c=m
 ·subst A;rw[bW] at n;cases n;cases G:s.H c with
  |none=>exact bB G R
  |some V=>
   exact⟨(h.heap c V G).1,f.mono (Ext.refl _ _) (λl _=>o l) (dv.refl _) (λ_ h=>h) (Shaped.refl _ _) λ_ _=>rfl⟩
 rw[bX _ _ _ _ A] at n;obtain⟨x,I⟩:=h.heap c e' n;exact⟨x,I.mono p (λl _=>o l) (dv.refl _) (λ_ h=>h) D λl W=>setRow_other _ _ _ _ λe=>A (h.inj c m l W (e▸L))⟩
theorem KG(m l:List V)(a:Nat)(h:a+l.length<=m.length)(n o:List Value)(r:n.length=m.length)(x:o.length=l.length){R:V->Value->Prop}
  (p: ∀(i:Nat) c u,m[i]? =some c->n[i]? =some u->R c u) (q: ∀(i:Nat) c u,l[i]? =some c->o[i]? =some u->R c u):
  ∀(i:Nat) c u,(mO m a l)[i]? =some c->(n.take a++o++n.drop (a+o.length))[i]? =some u->R c u:=by
 intro i c u k e;simp only[mO,List.getElem?_append,List.length_append,List.length_take,List.getElem?_take,List.getElem?_drop] at k e;by_cases aJ:i<a
 ·rw[a1 O,a1 O,a1 aJ] at k;rw[a1 O,a1 O,a1 aJ] at e;exact p i c u k e
 by_cases a2:i<a+l.length
 ·rw[a1 O,aY O] at k;rw[a1 O,aY O] at e;rw[show i-min a m.length=i-a by omega] at k;rw[show i-min a n.length=i-a by omega] at e;exact q _ c u k e
 rw[aY O] at k;rw[aY O] at e;rw[show a+l.length+(i-(min a m.length+l.length))=i by omega] at k;rw[show a+o.length+(i-(min a n.length+o.length))=i by omega] at e;exact p i c u k e
theorem CZ{P:Program}(h:cd P t u z size bytes)(w:World)(b o:Nat)(a:Array Value)(c:TypeId)(v:Value)(i:w.heap[b]? =some (.cells a c (0,0)))
  (e:v.cells.size=size) (l:o+size<=a.size) (k: ∀x∈v.cells.toList,x.oneCell'=true):
  (storeVar t ⟨b,o,none⟩ v).run P w= .ok () (w.setRow b (a.toList.take o++v.cells.toList++a.toList.drop (o+v.cells.toList.length)).toArray):=by have:=run_storeCells_at P b o c v.cells.toList 0 a w i (by simp[e];omega) k;simp only[storeVar,Sem.run_bind,h.run_sizeOf,Result.andThen_ok,e,ne_eq,not_true,if_false];simpa using this
theorem ZJ(x y:Operand)(r l:Nat)(A:List V)(v:V)(Y:s.get x= .ref r l)(hy:s.get y=v)(f:s.H r=some (.cells A))(e6:cd K.P t u z size bytes)
  (j:v.val=true) (eu:nF v.cs=true) (M:Nat.beq v.cs.length size=true) (cE:Nat.ble (l+size) A.length=true):
  dT K ⟨none,.store t x y,ty,pos,af,g⟩ s {s with H:=aU s.H r (some (.cells (mO A l v.cs)))}:=by
 intro B a w next Q W hk
 subst hy;have C:=W.get x;rw[Y] at C;obtain⟨b,X,N⟩:=rn C;obtain⟨gm,n,o,h1,D,h3,h4⟩:=(W.heap r _ f).2;rw[X] at h1;cases h1;obtain⟨T,c2⟩:=(W.get y).cells j;have F:(a.eval y).cells.size=size:=by rw[T];exact cN M
 have hle:l+size<=A.length:=ea cE;have G: ∀e∈(a.eval y).cells.toList,e.oneCell'=true:=by
  intro e he;obtain⟨i,aH⟩:=km.1 he;have I:(a.eval y).cells[i]? =some e:=by simpa using aH
  have L:i<(s.get y).cs.length:=by rw[<-T];exact(jt.1 I).1
  exact(c2 i _ e (br L) I).iU (zc eu (br L))
 unfold Oper.wp;have R:=CZ e6 w b l n o (a.eval y) D F O G;have p:(execOp a.eval ⟨none,.store t x y,ty,pos,af,g⟩).run K.P w= .ok .skip (w.setRow b (n.toList.take l++(a.eval y).cells.toList++n.toList.drop (l+(a.eval y).cells.toList.length)).toArray):=by
  simp only[execOp,N,Instr.storeAt,Instr.sureAddr,Sem.run_bind,Sem.run_pure,Result.andThen_ok,R]
 rw[p];have m:(n.toList.take l++(a.eval y).cells.toList++n.toList.drop (l+(a.eval y).cells.toList.length)).length=n.size:=by
  simp[F];omega
 refine hk B _ _ (Rel.setRow W r b (.inl ⟨_,X⟩) n o D _ (by simpa using m) (.cells (mO A l (s.get y).cs)) (by rw[f];simp) ?_);refine⟨b,_,o,X,setRow_heap _ _ _ _ _ _ D,?_,?_⟩
 ·simp only[List.size_toArray,m,h3];simp[mO]
  have:=cN M;omega
 intro i c e bP he;have kD:own K B s.H b:= .inr ⟨r,by rw[f];simp,.inl ⟨_,X⟩⟩;have q: ∀v u,bn B w (own K B s.H) v u->bn B (w.setRow b (n.toList.take l++(a.eval y).cells.toList++n.toList.drop (l+(a.eval y).cells.toList.length)).toArray) (own K B s.H) v u:=by
  intro v u j;refine j.mono ⟨rfl,rfl,rfl,aV,λk _ Y=>setRow_other _ _ _ _ λe=>Y (e▸kD)⟩ (λ_ _ h=>h) (dv.refl _) ?_;intro gm _;by_cases U:gm=b
  ·subst U;unfold World.shape?;rw[setRow_heap _ _ _ _ _ _ D,D];simp only[List.size_toArray,m]
  exact x0 (setRow_other _ _ _ _ U)
 refine q _ _ (KG A (s.get y).cs l (by have:=cN M;omega) n.toList (a.eval y).cells.toList (by simpa using h3) (by simpa using T) (λi c u h5 h6=>h4 i c u h5 (by simpa using h6)) (λi c u h5 h6=>c2 i c u h5 (by simpa using h6)) i c e bP ?_);simpa using he
end ops
end
section nO
variable {P:Program} {H:Nat->Option E} {d:Option Tmp} {ty:TypeId} {pos:String} {af:Array Edge} {g:Option (Nat×Bool)}
variable {t:TypeId} {u:TypeDesc} {z:Value} {size bytes:Nat}
theorem abz(x y:Operand)(t c:TypeId)(k:IntKind)(m n:Int):b9 P H ⟨d,.binOp .sub t x y c,ty,pos,af,g⟩ [.t (.int k m),.t (.int k n)] (.t (.int k (k.wrap (m-n)))):=by intro e w X h _ a;refine⟨.int k (k.wrap (m-n)),?_,.t _ _ (.int _ _)⟩;simp[execOp,dF a.1,dF a.2.1,eqGuard,binOp,Op.intArith]
theorem abF(x y:Operand)(t c:TypeId)(k:IntKind)(m n:Int):b9 P H ⟨d,.binOp .mul t x y c,ty,pos,af,g⟩ [.t (.int k m),.t (.int k n)] (.t (.int k (k.wrap (m*n)))):=by intro e w X h _ a;refine⟨.int k (k.wrap (m*n)),?_,.t _ _ (.int _ _)⟩;simp[execOp,dF a.1,dF a.2.1,eqGuard,binOp,Op.intArith]
theorem abB(x y:Operand)(t c:TypeId)(k:IntKind)(m n:Int)(h:n≠0):b9 P H ⟨d,.binOp .quo t x y c,ty,pos,af,g⟩ [.t (.int k m),.t (.int k n)] (.t (.int k (k.wrap (m.tdiv n)))):=by intro e w X i _ a;refine⟨.int k (k.wrap (m.tdiv n)),?_,.t _ _ (.int _ _)⟩;simp[execOp,dF a.1,dF a.2.1,eqGuard,binOp,Op.intDiv,h]
theorem abA(x y:Operand)(t c:TypeId)(k:IntKind)(m n:Int)(h:n≠0):b9 P H ⟨d,.binOp .rem t x y c,ty,pos,af,g⟩ [.t (.int k m),.t (.int k n)] (.t (.int k (m.tmod n))):=by intro e w X i _ a;refine⟨.int k (m.tmod n),?_,.t _ _ (.int _ _)⟩;simp[execOp,dF a.1,dF a.2.1,eqGuard,binOp,Op.intDiv,h]
theorem abo(x y:Operand)(t c:TypeId)(k:IntKind)(m n:Int):b9 P H ⟨d,.binOp .eql t x y c,ty,pos,af,g⟩ [.t (.int k m),.t (.int k n)] (.t (.bool (decide (m=n)))):=by intro e w X h _ a;refine⟨.bool (decide (m=n)),?_,.t _ _ (.bool _)⟩;simp[execOp,dF a.1,dF a.2.1,eqGuard,binOp,Op.intCmp];rfl
theorem abD(x y:Operand)(t c:TypeId)(k:IntKind)(m n:Int):b9 P H ⟨d,.binOp .neq t x y c,ty,pos,af,g⟩ [.t (.int k m),.t (.int k n)] (.t (.bool (!decide (m=n)))):=by intro e w X h _ a;refine⟨.bool (!decide (m=n)),?_,.t _ _ (.bool _)⟩;simp[execOp,dF a.1,dF a.2.1,eqGuard,binOp,Op.intCmp];rfl
theorem abI(x y:Operand)(t c:TypeId)(k:IntKind)(m n:Int):b9 P H ⟨d,.binOp .lss t x y c,ty,pos,af,g⟩ [.t (.int k m),.t (.int k n)] (.t (.bool (decide (m<n)))):=by intro e w X h _ a;refine⟨.bool (decide (m<n)),?_,.t _ _ (.bool _)⟩;simp[execOp,dF a.1,dF a.2.1,eqGuard,binOp,Op.intCmp]
theorem abJ(x y:Operand)(t c:TypeId)(k:IntKind)(m n:Int):b9 P H ⟨d,.binOp .leq t x y c,ty,pos,af,g⟩ [.t (.int k m),.t (.int k n)] (.t (.bool (decide (m<=n)))):=by intro e w X h _ a;refine⟨.bool (decide (m<=n)),?_,.t _ _ (.bool _)⟩;simp[execOp,dF a.1,dF a.2.1,eqGuard,binOp,Op.intCmp]
theorem abK(x y:Operand)(t c:TypeId)(k:IntKind)(m n:Int):b9 P H ⟨d,.binOp .gtr t x y c,ty,pos,af,g⟩ [.t (.int k m),.t (.int k n)] (.t (.bool (decide (n<m)))):=by intro e w X h _ a;refine⟨.bool (decide (n<m)),?_,.t _ _ (.bool _)⟩;simp[execOp,dF a.1,dF a.2.1,eqGuard,binOp,Op.intCmp]
theorem abn(x y:Operand)(t c:TypeId)(k:IntKind)(m n:Int):b9 P H ⟨d,.binOp .geq t x y c,ty,pos,af,g⟩ [.t (.int k m),.t (.int k n)] (.t (.bool (decide (n<=m)))):=by intro e w X h _ a;refine⟨.bool (decide (n<=m)),?_,.t _ _ (.bool _)⟩;simp[execOp,dF a.1,dF a.2.1,eqGuard,binOp,Op.intCmp]
theorem abp(x y:Operand)(t c:TypeId)(m n:List UInt8)(h:(m.length:Int)+n.length<=9223372036854775807):b9 P H ⟨d,.binOp .add t x y c,ty,pos,af,g⟩ [.t (.str m),.t (.str n)] (.t (.str (m++n))):=by
 intro l w X o _ a;refine⟨.string ⟨(m++n).toArray⟩,?_,.t _ _ (.str _)⟩;have e:(ByteArray.mk m.toArray).size=m.length:=by simp[ByteArray.size]
 have i:(ByteArray.mk n.toArray).size=n.length:=by simp[ByteArray.size]
 have k:(ByteArray.mk m.toArray)++(ByteArray.mk n.toArray)=ByteArray.mk (m++n).toArray:=by
  apply ByteArray.ext;simp
 simp[execOp,hn a.1,hn a.2.1,eqGuard,binOp,Op.stringOp,e,i,k];exact h
theorem aab(x y:Operand)(t c:TypeId)(m n:List UInt8):b9 P H ⟨d,.binOp .eql t x y c,ty,pos,af,g⟩ [.t (.str m),.t (.str n)] (.t (.bool (decide (m=n)))):=by intro e w X h _ a;refine⟨.bool (decide (m=n)),?_,.t _ _ (.bool _)⟩;simp[execOp,hn a.1,hn a.2.1,eqGuard,binOp,Op.stringOp];exact fg.2 aV
theorem aak(x y:Operand)(t c:TypeId)(m n:List UInt8):b9 P H ⟨d,.binOp .neq t x y c,ty,pos,af,g⟩ [.t (.str m),.t (.str n)] (.t (.bool (!decide (m=n)))):=by intro e w X h _ a;refine⟨.bool (!decide (m=n)),?_,.t _ _ (.bool _)⟩;simp[execOp,hn a.1,hn a.2.1,eqGuard,binOp,Op.stringOp];exact fg.2 aV
theorem aaa(x y:Operand)(t c:TypeId)(m n:List UInt8):b9 P H ⟨d,.binOp .geq t x y c,ty,pos,af,g⟩ [.t (.str m),.t (.str n)] (.t (.bool (!Op.bytesLess m n))):=by intro e w X h _ a;refine⟨.bool (!Op.bytesLess m n),?_,.t _ _ (.bool _)⟩;simp[execOp,hn a.1,hn a.2.1,eqGuard,binOp,Op.stringOp]
theorem X9(x y:Operand)(l:List UInt8)(n:Nat)(b:UInt8)(e:P.underlying t=some .string)(h:l[n]? =some b):b9 P H ⟨d,.index t x y,ty,pos,af,g⟩ [.t (.str l),.t (.int .i64 (n:Nat))] (.t (.int .u8 b.toNat)):=by
 intro k w X m _ c;refine⟨.int .u8 b.toNat,?_,.t _ _ (.int _ _)⟩;have i:(ByteArray.mk l.toArray)[n]? =some b:=by
  have a:=(bR.1 h).1;have bJ:=(bR.1 h).2;rw[getElem?_pos _ _ (by simpa[ByteArray.size] using a)];simpa[ByteArray.getElem_eq_getElem_data] using bJ
 simp[execOp,hn c.1,dF c.2.1,Instr.index,asIntOf,run_underlying e,i]
theorem abC(x:Operand)(t:TypeId)(b:Bool):b9 P H ⟨d,.unOp .not t x,ty,pos,af,g⟩ [.t (.bool b)] (.t (.bool (!b))):=by intro c w X e _ a;refine⟨.bool (!b),?_,.t _ _ (.bool _)⟩;simp[execOp,nw a.1,Op.unary]
theorem RY(w:World)(n:Nat)(a b:Bool)(c:P.underlying t=some .bool):(Op.equalIn (n+1) t (.bool a) (.bool b)).run P w= .ok (a==b) w:=by simp[Op.equalIn,run_underlying c]
theorem Jx(w:World)(a b:Bool)(c:P.underlying t=some .bool):(Op.equal t (.bool a) (.bool b)).run P w= .ok (a==b) w:=RY w 9999 a b c
theorem Wf(a b:Bool):binOp .eql t (.bool a) (.bool b)=(do pure (.bool (<-Op.equal t (.bool a) (.bool b)))):=rfl
theorem We(a b:Bool):binOp .neq t (.bool a) (.bool b)=(do pure (.bool (!(<-Op.equal t (.bool a) (.bool b))))):=rfl
theorem aai(x y:Operand)(c:TypeId)(m n:Bool)(e:P.underlying t=some .bool):b9 P H ⟨d,.binOp .eql t x y c,ty,pos,af,g⟩ [.t (.bool m),.t (.bool n)] (.t (.bool (m==n))):=by intro h w X i _ a;refine⟨.bool (m==n),?_,.t _ _ (.bool _)⟩;simp[execOp,nw a.1,nw a.2.1,eqGuard,Wf,Jx w m n e]
theorem aah(x y:Operand)(c:TypeId)(m n:Bool)(e:P.underlying t=some .bool):b9 P H ⟨d,.binOp .neq t x y c,ty,pos,af,g⟩ [.t (.bool m),.t (.bool n)] (.t (.bool (!(m==n)))):=by intro h w X i _ a;refine⟨.bool (!(m==n)),?_,.t _ _ (.bool _)⟩;simp[execOp,nw a.1,nw a.2.1,eqGuard,We,Jx w m n e]
theorem N8(x:Operand)(a c:TypeId)(k e:IntKind)(h:TypeDesc)(n:Int)(i:P.underlying a=some h)(l:P.underlying c=some (.int e)):b9 P H ⟨d,.convert a c x,ty,pos,af,g⟩ [.t (.int k n)] (.t (.int e (e.wrap n))):=by intro o w X p _ m;refine⟨.int e (e.wrap n),?_,.t _ _ (.int _ _)⟩;simp only[execOp,dF m.1,convert,Sem.run_bind,run_underlying i,run_underlying l,Result.andThen_ok];cases h<;>simp[Conv.intToInt]
theorem WL(x:Operand)(l:List UInt8)(a:P.underlying t=some .string):b9 P H ⟨d,.call {callee:= .builtin .len,args:= #[x],argTypes:= #[t]},ty,pos,af,g⟩ [.t (.str l)] (.t (.int .i64 (l.length:Nat))):=by
 intro k w X c _ e;refine⟨.int .i64 (l.length:Nat),?_,.t _ _ (.int _ _)⟩;have h:c x= .string ⟨l.toArray⟩:=hn e.1;have i:(ByteArray.mk l.toArray).size=l.length:=by simp[ByteArray.size]
 simp[execOp,resolve,invoke,builtin,h,Builtin.len_,run_underlying a,goInt,i]
theorem aaP{D:Map}{w:World}{X:Nat->Prop}{c:List (List T)}{u:Value}(h:bn D w X (.t (.aD c)) u): ∃a cap,u= .slice a c.length cap:=by
 cases h with
 |t _ _ h=>cases h with
  |fY a cap=>exact⟨a,cap,rfl⟩
  |aD _ b e size cap=>exact⟨_,cap,rfl⟩
theorem Ya(x:Operand)(e:TypeId)(c:List (List T))(i:P.underlying t=some (.slice e)):b9 P H ⟨d,.call {callee:= .builtin .len,args:= #[x],argTypes:= #[t]},ty,pos,af,g⟩ [.t (.aD c)] (.t (.int .i64 (c.length:Nat))):=by intro n w X k _ l;obtain⟨a,m,h⟩:=aaP l.1;refine⟨.int .i64 (c.length:Nat),?_,.t _ _ (.int _ _)⟩;have h:k x=_:=h;simp[execOp,resolve,invoke,builtin,h,Builtin.len_,run_underlying i,goInt]
theorem WM(x:Operand)(e:TypeId)(n gen c i h:Nat)(r:P.underlying t=some (.slice e))(o:TypeId)(k:List (List T))(s:H n=some (.arr o gen c k)):b9 P H ⟨d,.call {callee:= .builtin .len,args:= #[x],argTypes:= #[t]},ty,pos,af,g⟩ [.bc n gen c i h] (.t (.int .i64 (h:Nat))):=by
 intro y w X p A B;obtain⟨a,cap,l⟩: ∃a cap,p x= .slice a h cap:=by
  have C:bn y w X (.bc n gen c i h) (p x):=B.1;obtain⟨q,D⟩:=jq (A n _ s);rcases fa C D with ⟨cap,b,m,F,l,_⟩|⟨_,_,G,l⟩
  ·exact⟨_,_,l⟩
  exact⟨none,0,by rw[G];exact l⟩
 refine⟨.int .i64 (h:Nat),?_,.t _ _ (.int _ _)⟩;simp[execOp,resolve,invoke,builtin,l,Builtin.len_,run_underlying r,goInt]
theorem WN(x:Operand)(a:List V)(k:Nat)(v:V)(h:a[k]? =some v):b9 P H ⟨d,.extract x k,ty,pos,af,g⟩ [.bL a] v:=by
 intro m w X e _ n;have i:bn m w X (.bL a) (e x):=n.1;generalize o:e x=y at i;cases i with
 |bL _ c p q=>
  have l:k<c.size:=by rw[p];exact(bR.1 h).1
  refine⟨c[k],?_,q k v c[k] h (by simp[l])⟩;simp[execOp,o,Instr.extract,l]
theorem KD(x:Operand)(v:V)(a:(match v with| .ref _ _=>true| .aQ _=>true|_=>false)=true):b9 P H ⟨d,.nilCheck x,ty,pos,af,g⟩ [v] v:=by
 intro i w X c _ k;have e:bn i w X v (c x):=k.1;refine⟨c x,?_,e⟩;generalize h:c x=y at e;cases e with
 |ref=>simp[execOp,h]
 |aQ=>simp[execOp,h]
 |cC=>cases a
 |lI=>cases a
 |lh=>cases a
 |t=>cases a
 |agg=>cases a
 |bL=>cases a
 |bc=>cases a
 |hz=>cases a
 |fn=>cases a
 |c4=>cases a
theorem dw.fp: ∀{β:Map} {w:World} {X:Nat->Prop} {a:List V} {e:List Value},dw β w X a e->e.length=a.length/\ ∀(i:Nat) c u,a[i]? =some c->e[i]? =some u->bn β w X c u
 |_,_,_,[],[],_=>⟨rfl,λi c u h _=>by simp at h⟩
 |_,_,_,v::a,x::e,h=>by
  obtain⟨m,n⟩:=dw.fp h.2;refine⟨by simp[m],λi c u k l=>?_⟩;cases i with
  |zero=>simp at k l;subst k;subst l;exact h.1
  |succ i=>simp at k l;exact n i c u k l
 |_,_,_,[],_::_,h=>h.elim
 |_,_,_,_::_,[],h=>h.elim
theorem Va(f:FuncId)(a:Array Operand)(e:List V):b9 P H ⟨d,.makeFunc (.func f) #[] a,ty,pos,af,g⟩ e (.fn f e):=by
 intro l w X k _ m;have h:dw l w X e (a.toList.map k):=by simpa[Op.operands] using m
 obtain⟨n,o⟩:=h.fp;exact⟨.func (.func f) #[] (a.map k),by simp[execOp,Instr.makeFunc],.fn f e _ (by simpa using n) λi c u p q=>o i c u p (by simpa using q)⟩
theorem abH(x y:Operand)(a:Array TypeId)(k:IntKind)(m n:Int):b9 P H ⟨d,.call {callee:= .builtin .max,args:= #[x,y],argTypes:=a},ty,pos,af,g⟩ [.t (.int k m),.t (.int k n)] (.t (.int k (max m n))):=by
 intro p w X c _ e;refine⟨.int k (max m n),?_,.t _ _ (.int _ _)⟩;have h:c x= .int k m:=dF e.1;have i:c y= .int k n:=dF e.2.1;have l:(if n>m then n else m)=max m n:=by split<;>omega
 have o: ∀w,(Builtin.max_ a ty #[.int k m,.int k n]).run P w= .ok (.int k (max m n)) w:=by
  intro w;simp only[Builtin.max_,List.foldlM,Builtin.max2,l];rfl
 simp[execOp,resolve,invoke,builtin,h,i,o]
theorem abG(x y:Operand)(a:Array TypeId)(k:IntKind)(m n:Int):b9 P H ⟨d,.call {callee:= .builtin .min,args:= #[x,y],argTypes:=a},ty,pos,af,g⟩ [.t (.int k m),.t (.int k n)] (.t (.int k (min m n))):=by
 intro o w X c _ e;refine⟨.int k (min m n),?_,.t _ _ (.int _ _)⟩;have h:c x= .int k m:=dF e.1;have i:c y= .int k n:=dF e.2.1;have l: ∀w,(Builtin.min_ a ty #[.int k m,.int k n]).run P w= .ok (.int k (min m n)) w:=by
  intro w;simp only[Builtin.min_,List.foldlM,Builtin.min2]
  first|rfl|(rw[show min m n=(if n<m then n else m) from by split<;>omega];rfl)
 simp[execOp,resolve,invoke,builtin,h,i,l]
end nO
section nO
variable {P:Program} {H:Nat->Option E} {d:Option Tmp} {ty:TypeId} {pos:String} {af:Array Edge} {g:Option (Nat×Bool)}
variable {t:TypeId} {u:TypeDesc} {z:Value} {size bytes:Nat}
theorem jD(w:World)(n:Nat)(y:Nat)(c:Go.BoundsCode)(h:n<=y):(Instr.sliceBound (.int .i64 (n:Nat)) y c).run P w= .ok n w:=by simp[Instr.sliceBound,asIntOf];intro a;omega
theorem EK(l:List UInt8)(a b:Nat):(ByteArray.mk l.toArray).extract a b=ByteArray.mk ((l.take b).drop a).toArray:=by apply ByteArray.ext;rw[ByteArray.data_extract];apply Array.ext';simp[List.extract_eq_take_drop,List.drop_take]
theorem Uc(x:Operand)(h i:Operand)(l:List UInt8)(a b:Nat)(k:P.underlying t=some .string)(m:a<=b)(n:b<=l.length):
  b9 P H ⟨d,.slice t x (some h) (some i) none,ty,pos,af,g⟩ [.t (.str l),.t (.int .i64 (a:Nat)),.t (.int .i64 (b:Nat))] (.t (.str ((l.take b).drop a))):=by
 intro s w X c _ e;refine⟨.string ⟨((l.take b).drop a).toArray⟩,?_,.t _ _ (.str _)⟩;have o:c x=_:=hn e.1;have p:c h=_:=dF e.2.1;have q:c i=_:=dF e.2.2.1;have r:(ByteArray.mk l.toArray).size=l.length:=by simp[ByteArray.size]
 simp[execOp,o,p,q,Instr.sliceAt,Instr.slice,run_underlying k,Instr.sliceBounds,r,jD w b l.length _ n,jD w a b _ m,EK]
theorem R6(x:Operand)(c:Operand)(l:List UInt8)(a:Nat)(i:P.underlying t=some .string)(k:a<=l.length):
  b9 P H ⟨d,.slice t x (some c) none none,ty,pos,af,g⟩ [.t (.str l),.t (.int .i64 (a:Nat))] (.t (.str (l.drop a))):=by
 intro p w X e _ h;refine⟨.string ⟨(l.drop a).toArray⟩,?_,.t _ _ (.str _)⟩;have m:e x=_:=hn h.1;have n:e c=_:=dF h.2.1;have o:(ByteArray.mk l.toArray).size=l.length:=by simp[ByteArray.size]
 simp[execOp,m,n,Instr.sliceAt,Instr.slice,run_underlying i,Instr.sliceBounds,o,jD w a l.length _ k,EK]
theorem Sp(x:Operand)(a:Operand)(l:List UInt8)(b:Nat)(h:P.underlying t=some .string)(i:b<=l.length):
  b9 P H ⟨d,.slice t x none (some a) none,ty,pos,af,g⟩ [.t (.str l),.t (.int .i64 (b:Nat))] (.t (.str (l.take b))):=by
 intro o w X c _ e;refine⟨.string ⟨(l.take b).toArray⟩,?_,.t _ _ (.str _)⟩;have k:c x=_:=hn e.1;have m:c a=_:=dF e.2.1;have n:(ByteArray.mk l.toArray).size=l.length:=by simp[ByteArray.size]
 simp[execOp,k,m,Instr.sliceAt,Instr.slice,run_underlying h,Instr.sliceBounds,n,jD w b l.length _ i,EK]
theorem cX.part{w:World}{X:Nat->Prop}{c:List (List T)}{v:Value}(h:cX w X (.aD c) v)(a b size:Nat)(S:a<=b)(B:b<=c.length)(o: ∀m,m∈c->m.length=size):
  ∃p k,v= .slice p c.length k/\c.length<=k/\cX w X (.aD ((c.take b).drop a)) (.slice (if k=a then p else p.map (·.add (a*size))) (b-a) (k-a)):=by
 cases h with
 |fY p k=>
  have L:a=0:=by simp at B;omega
  have C:b=0:=by simp at B;omega
  subst L;subst C;exact⟨p,k,rfl,aV,by simpa using cX.fY _ _⟩
 |aD _ Q D l k f C R q r U W=>
  refine⟨_,k,rfl,q,?_⟩;have n:((c.take b).drop a).length=b-a:=bQ
  by_cases F:a=b
  ·subst F;rw[show(c.take a).drop a=[] by simp];rw[jS];exact .fY _ _
  have G:c≠[]:=by intro e;subst e;simp at B;omega
  obtain⟨K,s⟩:=Dd c G;have I:l=size:=by rw[<-r K s,o K s]
  subst I;rw[aY O];simp only[Option.map_some,jh];rw[<-n];refine .aD _ Q (D+a*l) l (k-a) (λi j=>f (a+i) j) C R (by rw[n];omega) (λm y=>o m (gh (eY y))) (λi j Y M=>?_) λi j m x A N=>?_
  ·have:=U (a+i) j (by rw[n] at Y;omega) M;rw[dp,<-pP] at this;exact this
  refine W (a+i) j m x ?_ N;rw[fZ,ft] at A;split at A
  ·exact A
  cases A
theorem Se(x:Operand)(l:Operand)(e:TypeId)(c:List (List T))(a:Nat)(r:P.underlying t=some (.slice e))(s:cd P e u z size bytes)(m:a<=c.length)(k: ∀i,i∈c->i.length=size):
  b9 P H ⟨d,.slice t x (some l) none none,ty,pos,af,g⟩ [.t (.aD c),.t (.int .i64 (a:Nat))] (.t (.aD (c.drop a))):=by
 intro y w X n _ o;have A:n l=_:=dF o.2.1;have B:bn y w X (.t (.aD c)) (n x):=o.1;cases B with
 |t _ _ h=>
  obtain⟨F,C,D,p,q⟩:=h.part a c.length size m (cQ _) k;rw[c6] at q;refine⟨_,?_,.t _ _ q⟩;simp[execOp,D,A,Instr.sliceAt,Instr.slice,run_underlying r,Instr.sliceBounds,jD w a c.length _ m,s.run_sizeOf]
theorem SG(x:Operand)(l:Operand)(e:TypeId)(a:List (List T))(b:Nat)(q:P.underlying t=some (.slice e))(r:cd P e u z size bytes)(s:b<=a.length)(i: ∀c,c∈a->c.length=size):
  b9 P H ⟨d,.slice t x none (some l) none,ty,pos,af,g⟩ [.t (.aD a),.t (.int .i64 (b:Nat))] (.t (.aD (a.take b))):=by
 intro y w X m _ n;have A:m l=_:=dF n.2.1;have B:bn y w X (.t (.aD a)) (m x):=n.1;cases B with
 |t _ _ h=>
  obtain⟨D,k,C,o,p⟩:=h.part 0 b size (Nat.zero_le _) s i;simp only[List.drop_zero] at p;refine⟨_,?_,.t _ _ p⟩;simp[execOp,C,A,Instr.sliceAt,Instr.slice,run_underlying q,Instr.sliceBounds,jD w b k _ O,r.run_sizeOf]
theorem U9(x:Operand)(o p:Operand)(e:TypeId)(c:List (List T))(a b:Nat)(s:P.underlying t=some (.slice e))(y:cd P e u z size bytes)(q:a<=b)(A:b<=c.length)(k: ∀i,i∈c->i.length=size):
  b9 P H ⟨d,.slice t x (some o) (some p) none,ty,pos,af,g⟩ [.t (.aD c),.t (.int .i64 (a:Nat)),.t (.int .i64 (b:Nat))] (.t (.aD ((c.take b).drop a))):=by
 intro B w X l _ m;have C:l o=_:=dF m.2.1;have D:l p=_:=dF m.2.2.1;have F:bn B w X (.t (.aD c)) (l x):=m.1;cases F with
 |t _ _ h=>
  obtain⟨K,n,G,r,I⟩:=h.part a b size q A k;refine⟨_,?_,.t _ _ I⟩;simp[execOp,G,C,D,Instr.sliceAt,Instr.slice,run_underlying s,Instr.sliceBounds,jD w b n _ O,jD w a b _ q,y.run_sizeOf]
end nO
theorem cX.afz{w:World}{X:Nat->Prop}{a:List (List T)}{e:Option Addr}{n i:Nat}(h:cX w X (.aD a) (.slice e n i))(c:Nat)(p:n<=c):cX w X (.aD a) (.slice e n c):=by
 cases h with
 |fY=>exact .fY _ c
 |aD _ b k size _ f q r o l m s=>exact .aD a b k size c f q r p l m s
theorem TL{P:Program}{H:Nat->Option E}{d:Option Tmp}{ty t:TypeId}{pos:String}{af:Array Edge}{g:Option (Nat×Bool)}{u:TypeDesc}{z:Value}{i n:Nat}(x r s:Operand)(e:TypeId)(a:List (List T))(b:Nat)(C:P.underlying t=some (.slice e))(D:cd P e u z i n)(F:b<=a.length)(l: ∀c,c∈a->c.length=i):
  b9 P H ⟨d,.slice t x none (some r) (some s),ty,pos,af,g⟩ [.t (.aD a),.t (.int .i64 (b:Nat)),.t (.int .i64 (b:Nat))] (.t (.aD (a.take b))):=by
 intro G w X m _ o;have I:m r=_:=dF o.2.1;have K:m s=_:=dF o.2.2.1;have L:bn G w X (.t (.aD a)) (m x):=o.1;cases L with
 |t _ _ h=>
  obtain⟨y,k,Q,A,p⟩:=h.part 0 b i (Nat.zero_le _) F l;simp only[List.drop_zero,Nat.zero_mul,Nat.sub_zero] at p;have q:cX w X (.aD (a.take b)) (.slice (if b=0 then y else y.map (·.add 0)) b b):=by
   by_cases B:b=0
   ·subst B;exact .fY _ _
   rw[aY (show¬k=0 by omega)] at p;rw[aY B];exact p.afz b (cQ _)
  refine⟨_,?_,.t _ _ q⟩;simp[execOp,Q,I,K,Instr.sliceAt,Instr.slice,run_underlying C,Instr.sliceBounds,jD w b k _ O,jD w b b _ (Nat.le_refl _),D.run_sizeOf]
section
def p5(h:Map)(w:World)(X:Nat->Prop)(a:List V)(e:List Value):Prop:=e.length=a.length/\ ∀(i:Nat) c u,a[i]? =some c->e[i]? =some u->bn h w X c u
variable {w:World}{X:Nat->Prop}{o:Oper}{vals:List V}{v:V}{n:Nat}
theorem p5.mO{D:Map}{a e:List V}{c i:List Value}(h:p5 D w X a c)(k:p5 D w X e i)(l:Nat)(m:l+e.length<=a.length):
  p5 D w X (mO a l e) (c.take l++i++c.drop (l+i.length)):=by refine⟨?_,KG a e l m c i h.1 k.1 h.2 k.2⟩;have n:=h.1;have ev:=k.1;simp[Lift.mO];omega
theorem ME: ∀(c:List Value) (k a:Nat) (cells:Array Value),a+k+c.length<=cells.size->
  (c.zipIdx k).foldl (λcs (p:Value×Nat)=>cs.setIfInBounds (a+p.2) p.1) cells=(cells.toList.take (a+k)++c++cells.toList.drop (a+k+c.length)).toArray
 | [],k,a,cells,_=>aV
 |v::c,k,a,cells,h=>by simp only[List.zipIdx_cons,List.foldl_cons];simp only[List.length_cons] at h;rw[ME c (k+1) a _ bQ];have e:=list_seg_step cells.toList (a+k) v c bQ;simp only[Array.toList_setIfInBounds,List.length_cons];congr 1
def kP(a:Nat->Option (Nat×Nat))(h:List V):List (Nat×V)->Option (List V)
 | []=>some h
 |(i,v)::c=>match a i with
  |none=>none
  |some (e,size)=>bif v.val&&Nat.beq v.cs.length size&&Nat.ble (e+size) h.length then kP a (mO h e v.cs) c else none
theorem vU{β:Map}{w:World}{X:Nat->Prop}(a:Nat->Option (Nat×Nat)): ∀(is:List Nat) (k:List V) (C:List Value) (cs:List V) (l:Array Value) (n:List V),p5 β w X cs l.toList->dw β w X k C->is.length=k.length->
  kP a cs (is.zip k)=some n-> ∃o,Instr.fill a l (is.zip C)=some o/\p5 β w X n o.toList
 | [],[],[],cs,l,n,h,_,_,m=>by simp[kP] at m;subst m;exact⟨l,rfl,h⟩
 |i::is,v::k,x::C,cs,l,n,h,A,B,m=>by
  simp only[List.zip_cons_cons,kP] at m;cases F:a i with
  |none=>rw[F] at m;cases m
  |some q=>
   obtain⟨e,size⟩:=q;rw[F] at m;simp only[] at m;cases D:(v.val&&Nat.beq v.cs.length size&&Nat.ble (e+size) cs.length) with
   |false=>rw[D] at m;cases m
   |true=>
    rw[D,cond_true] at m;simp only[Bool.and_eq_true] at D;obtain⟨⟨U,cu⟩,R⟩:=D;have cu:=cN cu;have R:=ea R;obtain⟨G,W⟩:=A.1.cells U;have Y:l.size=cs.length:=by simpa using h.1
    have I:p5 β w X v.cs x.cells.toList:=⟨by simpa using G,λi c u L Q=>W i c u L (by simpa using Q)⟩
    have r:=h.mO I e O;have y:x.cells.zipIdx.foldl (λcs (p:Value×Nat)=>cs.setIfInBounds (e+p.2) p.1) l=(l.toList.take e++x.cells.toList++l.toList.drop (e+x.cells.toList.length)).toArray:=by
     rw[<-Array.foldl_toList,Array.toList_zipIdx]
     have:=ME x.cells.toList 0 e l (by simp[G];omega);simpa using this
    obtain⟨o,L,Q⟩:=vU a is k C (mO cs e v.cs) (l.toList.take e++x.cells.toList++l.toList.drop (e+x.cells.toList.length)).toArray n (by simpa using r) A.2 (by simpa using B) m;refine⟨o,?_,Q⟩;simp only[List.zip_cons_cons,Instr.fill,F];rw[aY (by simp[G];omega),y];exact L
 | [],_::_,_,_,_,_,_,_,B,_=>by simp at B
 |_::_,[],_,_,_,_,_,_,B,_=>by simp at B
 | [],[],_::_,_,_,_,_,A,_,_=>A.elim
 |_::_,_::_,[],_,_,_,_,A,_,_=>A.elim
theorem vn(c:Operand->Value): ∀a:List (Nat×Operand),a.map (λp=>(p.1,c p.2))=(a.map (·.1)).zip ((a.map (·.2)).map c)
 | []=>rfl
 |p::a=>by simp only[List.map_cons,List.zip_cons_cons,vn c a]
def Bf(P:Program)(H:Nat->Option E)(o:Oper)(a:List V)(v:V):Prop:=
 ∀(c:Map) (w:World) (X:Nat->Prop) (i:Operand->Value),(∀id e,H id=some e->cH c w X id e)->(∀b,X b->b<w.heap.size)->
  dw c w X a (o.op.operands.toList.map i)-> ∃u h,(execOp i o).run P w= .ok (.value u) h/\Ext (λ_=>False) w h/\bn c h X v u
theorem b9.g{P:Program}{H:Nat->Option E}(h:b9 P H o vals v):Bf P H o vals v:=
 λa w X c e _ i=>let ⟨u,k,l⟩:=h a w X c e i;⟨u,w,k,Ext.refl _ _,l⟩
theorem Rel.Iw{K:Ctx}{β:Map}{s:S}{a:Act}(c:Rel K β s a w): ∀b,own K β s.H b->b<w.heap.size:=by
 rintro b (e|⟨id,_,h⟩)
 ·exact l6 (c.iD b e).1 c.ext.size
 exact(c.fresh id b h).2
theorem Jl{K:Ctx}{s:S}(n: ∀i,o.dst=some i->Nat.blt i K.nt=true)(p:fr (o.op.operands.toList.map s.get) vals)(h:Bf K.P s.H o vals v):
  dT K o s (s.put o.dst v):=by
 intro l a w next Q k q
 obtain⟨u,r,c,m,x⟩:=h l w (own K l s.H) a.eval (λid e m=>(k.heap id e m).2) k.Iw ((k.oh _).le p);unfold Oper.wp;rw[c];exact q l _ r ((k.grow m).put o.dst n x)
section ops
variable {P:Program} {H:Nat->Option E} {d:Option Tmp} {ty:TypeId} {pos:String} {af:Array Edge} {g:Option (Nat×Bool)}
variable {t:TypeId} {u:TypeDesc} {z:Value} {size bytes:Nat}
theorem Aq(e:Map)(w:World)(X:Nat->Prop)(us:List Value)(n:Nat)(h:us.length=n):p5 e w X (List.replicate n .c4) us:=
 ⟨by simp[h],λi c u a _=>by
  rw[td] at a;split at a
  ·cases a;exact .c4 _
  cases a⟩
theorem Y8(k:Array (Nat×Operand))(D:Array Field)(a:Array (Nat×Nat))(h l:List V)(F:cd P t (.struct D) z size bytes)
  (G: ∀w,(D.mapM (m:=Sem) λf:Field=>do pure (f.offset,<-sizeOf f.type)).run P w= .ok a w) (I:(gX z).val=true) (n:Nat.beq k.toList.length h.length=true)
  (L:kP (a[·]?) (gX z).cs ((k.toList.map (·.1)).zip h)=some l):b9 P H ⟨d,.build t k,ty,pos,af,g⟩ h (.agg l):=by
 intro q w X o _ Q;have r:dw q w X h ((k.toList.map (·.2)).map o):=by simpa[Op.operands] using Q
 obtain⟨R,U⟩:=(yx q w X z).cells I;obtain⟨y,A,p⟩:=vU (β:=q) (w:=w) (X:=X) (a[·]?) (k.toList.map (·.1)) h _ (gX z).cs z.cells l ⟨by simpa using R,λi c u A p=>U i c u A (by simpa using p)⟩ r (by simpa using cN n) L;refine⟨.agg y,?_,.agg _ _ (by simpa using p.1) λi c u W Y=>p.2 i c u W (by simpa using Y)⟩;have B:=vn o k.toList;have C:=G w;simp only[execOp,Instr.build,Sem.run_bind,F.sT,Result.andThen_ok,run_underlying F.1];rw[C];simp only[Result.andThen_ok,Array.toList_map];have e:(k.toList.map λx=>match x with|(i,x)=>(i,o x))=(k.toList.map (·.1)).zip ((k.toList.map (·.2)).map o):=by rw[<-B]
 rw[e,A];rfl
theorem Mj(x:Operand)(k:Nat)(B:Array Field)(h:Field)(m:List V)(v:V){a:TypeDesc}{e:Value}{L:Nat}(C:cd P t (.struct B) z size bytes)(D:B[k]? =some h)(l:cd P h.type a e n L)
  (p:(kt a=true/\Nat.ble (h.offset+n) m.length=true/\v= .agg ((m.drop h.offset).take n))\/(kt a=false/\m[h.offset]? =some v)):b9 P H ⟨d,.field t x k,ty,pos,af,g⟩ [.agg m] v:=by
 intro U w X F _ o;have G:bn U w X (.agg m) (F x):=o.1;generalize I:F x=y at G;cases G with
 |agg _ q W Q=>
  rcases p with ⟨o,Y,rfl⟩|⟨o,p⟩
  ·have b:=ea Y;refine⟨.agg (q.extract h.offset (h.offset+n)),?_,.agg _ _ bQ λi c u A r=>?_⟩
   ·simp[execOp,I,Instr.field,run_underlying C.1,D,asAgg,part,l.CQ,l.run_sizeOf,o]
   have f:i<n:=by
    have:=(bR.1 A).1;simp at this;omega
   rw[De f,fZ] at A;refine Q (h.offset+i) c u A ?_;rw[Array.getElem?_extract] at r;split at r
   ·exact r
   cases r
  have R:h.offset<q.size:=by rw[W];exact(bR.1 p).1
  refine⟨q[h.offset],?_,Q _ v q[h.offset] p (by simp[R])⟩;simp[execOp,I,Instr.field,run_underlying C.1,D,asAgg,part,l.CQ,o,R]
theorem JE(n:Nat)(m:Array (Nat×Operand))(e:TypeId)(k:List V)(a:List (List T))(hu:P.underlying t=some (.slice e))(v:cd P e u z size bytes)(A:Nat.beq m.toList.length k.length=true)
  (cJ:Nat.beq a.length n=true) (o: ∀c,c∈a->c.length=size) (B:Nat.ble (n*size) 16777216=true)
  (ij:kP (λi=>some (i*size,size)) (List.replicate (n*size) .c4) ((m.toList.map (·.1)).zip k)=some (a.flatten.map .t)):
  Bf P H ⟨d,.buildSlice t n m,ty,pos,af,g⟩ k (.t (.aD a)):=by
 intro M w X C _ hr fU;have Q:=cN cJ;have R:dw M w X k ((m.toList.map (·.2)).map C):=by simpa[Op.operands] using fU
 have U:=vn C m.toList;obtain⟨l,p,y⟩:=vU (β:=M) (w:=w) (X:=X) (λi=>some (i*size,size)) (m.toList.map (·.1)) k _ (List.replicate (n*size) .c4)
  ((Array.range (n*size)).map ((if n*size=0 then #[] else z.cells)[· %(if n*size=0 then #[] else z.cells).size]!)) _ (Aq _ _ _ _ _ aV) R (by simpa using cN A) ij
 have D:(execOp C ⟨d,.buildSlice t n m,ty,pos,af,g⟩).run P w= .ok (.value (.slice (some ⟨w.heap.size,0,none⟩) n n)) (w.alloc (.cells l e)):=by
  have N:(m.toList.map λx=>match x with|(i,x)=>(i,C x))=(m.toList.map (·.1)).zip ((m.toList.map (·.2)).map C):=by rw[<-U]
  have W: ¬(n*size>2^24):=by have:=ea B;omega
  simp only[execOp,Instr.buildSlice,Sem.run_bind,run_underlying hu,Result.andThen_ok,v.run_sizeOf,W,if_false,Array.toList_map];by_cases I:n*size=0
  ·simp only[I,if_true] at p;simp only[I,if_true,Sem.run_pure,Sem.run_bind,Result.andThen_ok];rw[N,p];rfl
  simp only[I,if_false] at p;simp only[I,if_false,Sem.run_pure,Sem.run_bind,v.sT,Result.andThen_ok];rw[N,p];rfl
 refine⟨_,_,D,Ext.alloc _ _ _,.t _ _ ?_⟩;subst Q;have q:l.size=a.flatten.length:=by
  have h:=y.1;rw[c5,l5] at h;exact h
 have Y:a.flatten.length=a.length*size:=by
  rw[List.length_flatten]
  have:a.map List.length=List.replicate a.length size:=List.eq_replicate_iff.2 ⟨aV,λb W=>by obtain⟨r,b7,rfl⟩:=eP.1 W;exact o r b7⟩;rw[this];simp
 have F: ∀(a:List (List T)),(∀c,c∈a->c.length=size)-> ∀(i j:Nat) (c:List T) (x:T),a[i]? =some c->c[j]? =some x->a.flatten[i*size+j]? =some x:=by
  intro a;induction a with
  |nil=>intro _ i j c x h _;simp at h
  |cons r a my=>
   intro hs i j c x p y;have b7:=hs r aV;rw[List.flatten_cons];cases i with
   |zero=>
    simp at p;subst p
    have:=(bR.1 y).1;rw[gi,dt,gG this];exact y
   |succ i=>
    simp at p;rw[gF (by rw[b7,dp];omega)];rw[show(i+1)*size+j-r.length=i*size+j by rw[b7,dp];omega];exact my (λc h=>hs c (by simp[h])) i j c x p y
 have G: ∀i j,i<a.length->j<size->i*size+j<l.size:=by
  intro i j aH L;rw[q,Y]
  have:(i+1)*size<=a.length*size:=dA _ aH;rw[dp] at this;omega
 refine .aD a w.heap.size 0 size a.length (λi j=>l.getD (i*size+j) undef) aV (λh=>by have:=hr _ h;omega) (cQ _) o (λi j aH L=>?_) λi j c x f h4=>?_
 ·rw[dt,World.cell?_alloc_new]
  have:=G i j aH L;simp[this]
 have h5:=F a o i j c x f h4;have aH:=(bR.1 f).1;have L:j<size:=by rw[<-o c (bE f)];exact(bR.1 h4).1
 have h6:=G i j aH L;have lP:=y.2 (i*size+j) (.t x) l[i*size+j] (by rw[ey,h5];rfl) (by simp[h6]);cases lP with
 |t _ _ h=>
  have:l.getD (i*size+j) undef=l[i*size+j]:=by simp[h6]
  rw[this];exact h.mono (Ext.alloc X _ _) λ_ _ h=>h
end ops
theorem mF{i j size:Nat}(a:i<n)(c:j<size):i*size+j<n*size:=by have:(i+1)*size<=n*size:=dA _ a;rw[dp] at this;omega
section ops
variable {K:Ctx} {s:S} {d:Option Tmp} {ty:TypeId} {pos:String} {af:Array Edge} {g:Option (Nat×Bool)}
variable {t:TypeId} {u:TypeDesc} {z:Value} {size bytes:Nat}
theorem Oh(k:Nat)(hk:s.u k=false)(l c:Operand)(e:TypeId)(m:Nat)(n:List T)(cv: ∀i,d=some i->Nat.blt i K.nt=true)(hu:K.P.underlying t=some (.slice e))(he:cd K.P e u z size bytes)
  (cE:s.get l= .t (.int .i64 (m:Nat))) (bP:s.get c= .t (.int .i64 (m:Nat))) (eM:(gX z).cs=n.map .t) (G:(gX z).val=true) (hs:Nat.beq n.length size=true) (r:Nat.blt 0 size=true) (hm:m*bytes<=281474976710656) (BS:m<=9223372036854775807):
  dT K ⟨d,.makeSlice t l c,ty,pos,af,g⟩ s ((s.new k (.arr e 1 size (List.replicate m n))).put d (.bc k 1 size 0 m)):=by
 intro I a w next Q W X
 have L:=W.get l;rw[cE] at L;have R:=W.get c;rw[bP] at R;have L:=dF L;have R:=dF R;have p:=cN hs;have hp:0<size:=by simpa[Nat.blt_eq] using r
 obtain⟨c1,c2⟩:=(yx I w (own K I s.H) z).cells G;have A:z.cells.size=size:=by rw[c1,eM];simpa using p
 have B:(execOp a.eval ⟨d,.makeSlice t l c,ty,pos,af,g⟩).run K.P w= .ok (.value (.slice (some ⟨w.heap.size,0,none⟩) m m)) (w.alloc (.cells ((Array.range (m*size)).map (z.cells[· %z.cells.size]!)) e)):=by
  obtain⟨_,i,Y,b,f,v⟩:=he;have a':(i.bytes:Int)*(m:Int)<=281474976710656:=by
   rw[v,Int.mul_comm,<-Int.natCast_mul];omega
  have:=run_make (P:=K.P) w t e i z hu Y b .i64 .i64 m m O (gH _) a' O;simp only[Int.toNat_natCast,f,madeCells] at this;simp only[execOp,L,R,Sem.run_bind,this,Result.andThen_ok];rfl
 unfold Oper.wp;rw[B];have C:=W.new k 1 hk ((Array.range (m*size)).map (z.cells[· %z.cells.size]!)) e (.arr e 1 size (List.replicate m n)) λβ' ie w' hw cJ M=>⟨cQ _,Or.inr ⟨w.heap.size,_,cJ,by subst hw;exact jB _ _,?_,?_,?_⟩⟩
 ·have N:(w.alloc (.cells ((Array.range (m*size)).map (z.cells[· %z.cells.size]!)) e)).heap.size=w.heap.size+1:=World.size_alloc ..;have V:(w.alloc (.cells ((Array.range (m*size)).map (z.cells[· %z.cells.size]!)) e)).shape? w.heap.size=some (e,m*size):=by unfold World.shape?;rw[jB];simp
  have G:bn (I.put k (some (some w.heap.size,1))) (w.alloc (.cells ((Array.range (m*size)).map (z.cells[· %z.cells.size]!)) e)) (own K (I.put k (some (some w.heap.size,1))) (s.new k (.arr e 1 size (List.replicate m n))).H) (.bc k 1 size 0 m)
    (.slice (some ⟨w.heap.size,0*size,none⟩) m m):= .bc k 1 size 0 m m w.heap.size (m*size) e (cQ _) (bW _ _ _) (N▸mV _) V (by rw[dt]) (cQ _) (by unfold maxLen;omega)
  rw[gi] at G;exact X _ _ _ (C.put d cv G)
 ·simp
 ·intro row o;rw[pT] at o;rw[o.2];exact p
 intro i j row x y U hj hy;rw[td] at U;split at U
 ·rename_i adj;cases U;have q:j<size:=by rw[<-p];exact(bR.1 hj).1
  have D:=mF adj q;simp only[Array.getElem?_map,Array.getElem?_range,D,if_true,Option.map_some,Option.some.injEq] at hy;have F:(i*size+j)%z.cells.size=j:=by rw[A,Nat.add_comm,Nat.add_mul_mod_self_right,Nat.mod_eq_of_lt q]
  rw[F] at hy;have aeg:z.cells[j]? =some y:=by rw[<-hy];rw[getElem!_pos _ _ O];simp[A,q]
  have h3:=c2 j (.t x) y (by rw[eM,ey,hj];rfl) aeg;have h4:=M _ _ h3;cases h4 with|t _ _ h=>exact h
 cases U
def Src(w:World)(X:Nat->Prop)(c:Nat)(a:List (List T))(u:Value):Prop:=
 (u= .slice none 0 0/\a=[])\/ ∃(b e l:Nat) (k:List Value),u= .slice (some ⟨b,e,none⟩) a.length l/\k.length=a.length*c/\
  (∀(j:Nat) x,k[j]? =some x->w.cell? ⟨b,e+j,none⟩=some x)/\(∀x,x∈k->x.oneCell'=true)/\
  ∀(i j:Nat) (h:List T) (x:T) (y:Value),a[i]? =some h->h[j]? =some x->k[i*c+j]? =some y->cX w X x y
theorem cX.iU{x:T}{u:Value}(h:cX w X x u):u.oneCell'=true:=by cases h<;>rfl
theorem Ff{v:Map}{size:Nat}{e:List (List T)}{u:Value}(h:bn v w X (.t (.aD e)) u)(F: ∀k,k∈e->k.length=size)(r:0<size):
  Src w X size e u\/(e=[]/\ ∃a l,u= .slice a 0 l):=by
 cases h with
 |t _ _ h=>cases h with
  |fY a l=>exact .inr ⟨rfl,a,l,rfl⟩
  |aD _ b G c l f a' hr U n M W=>
   by_cases A:e=[]
   ·subst A;exact .inr ⟨rfl,_,_,rfl⟩
   obtain⟨Y,B⟩:=Dd e A;have I:c=size:=by rw[<-n Y B,F Y B]
   subst I;refine .inl (.inr ⟨b,G,l,(List.range (e.length*c)).map λm=>f (m / c) (m%c),rfl,aV,λj x p=>?_,λx N=>?_,λi j k x y q L D=>?_⟩)
   ·rw[ey] at p;cases o:(List.range (e.length*c))[j]? with
    |none=>rw[o] at p;cases p
    |some Q=>
     rw[o] at p;have C:j<e.length*c:=by simpa using (bR.1 o).1
     have R:Q=j:=by rw[List.getElem?_range C] at o;cases o;rfl
     subst R;simp at p;rw[<-p]
     have:=M (Q / c) (Q%c) (by rw[vz r];exact C) (Nat.mod_lt _ r);rw[pP,Nat.mul_comm,Nat.div_add_mod] at this;exact this
   ·obtain⟨m,hm,rfl⟩:=eP.1 N;have hm:=tc.1 hm;have q:m / c<e.length:=by rw[vz r];exact hm
    have L:=Nat.mod_lt m r;have D:=n e[m / c] (fC q);exact(W (m / c) (m%c) e[m / c] (e[m / c])[m%c] (br q) (br O)).iU
   have p:j<c:=by rw[<-n k (bE q)];exact(bR.1 L).1
   have aH:=(bR.1 q).1;rw[ey,List.getElem?_range (mF aH p)] at D;simp at D;rw[<-D];have V:(i*c+j) / c=i:=by rw[Nat.mul_comm,Nat.mul_add_div r,Nat.div_eq_of_lt p,oL]
   rw[V,Nat.mod_eq_of_lt p];exact W i j k x q L
end ops
end
variable {D β:Map}{k:Nat}{a:Act}{w:World}
theorem AF{gen:Nat}(q:Option Nat)(c:Option Nat)(i:1<=gen)(h:D k=some (q,gen)):dv D (D.put k (some (c,gen+1))):=by
 intro id l m a;by_cases e:id=k
 ·subst e;rw[h] at a;cases a;exact .inr ⟨i,c,gen+1,jg _ _ _,mV _⟩
 exact .inl (by rw[ep _ _ _ _ e];exact a)
theorem Rel.move{K:Ctx}{s:S}(h:Rel K β s a w)(k:Nat)(A:TypeId)(gen l:Nat)(F:List (List T))(Y:s.H k=some (.arr A gen l F))(B:Array Value)(c:List (List T))
  (G:c.length*l<=B.size) (f: ∀n,n∈c->n.length=l) (E: ∀(i j:Nat) (n:List T) (x:T) (u:Value),c[i]? =some n->n[j]? =some x->B[i*l+j]? =some u->cX w (own K β s.H) x u):
  Rel K (β.put k (some (some w.heap.size,gen+1))) {s with H:=aU s.H k (some (.arr A (gen+1) l c))} a (w.alloc (.cells B A)):=by
 have m: ∀X,Ext X w (w.alloc (.cells B A)):=λX=>Ext.alloc X w _;have I:s.u k=true:=(h.heap k _ Y).1;obtain⟨oC,L⟩:=jq (h.heap k _ Y).2;have Q:=(h.heap k _ Y).2.1;have o: ∀id b,At (β.put k (some (some w.heap.size,gen+1))) id b->(id=k/\b=w.heap.size)\/At β id b:=λid b a'=>by
  rcases a' with ⟨g,a'⟩|a'
  ·by_cases q:id=k
   ·subst q;rw[jg] at a';cases a';exact .inl ⟨rfl,rfl⟩
   rw[ep _ _ _ _ q] at a';exact .inr (.inl ⟨g,a'⟩)
  exact .inr (.inr a')
 have r: ∀b,b<w.heap.size->own K (β.put k (some (some w.heap.size,gen+1))) (aU s.H k (some (.arr A (gen+1) l c))) b->own K β s.H b:=by
  rintro b hlt (M|⟨id,D,R⟩)
  ·exact .inl M
  rcases o id b R with ⟨rfl,rfl⟩|C
  ·omega
  refine .inr ⟨id,λN=>?_,C⟩;by_cases q:id=k
  ·subst q;rw[Y] at N;cases N
  rw[bX _ _ _ _ q] at D;exact D N
 have U:Shaped β w (w.alloc (.cells B A)):=qo (m _);have W:=AF oC (some w.heap.size) Q L;have P: ∀v u,bn β w (own K β s.H) v u->bn (β.put k (some (some w.heap.size,gen+1))) (w.alloc (.cells B A)) (own K (β.put k (some (some w.heap.size,gen+1))) (aU s.H k (some (.arr A (gen+1) l c)))) v u:=
  λv u bJ=>bJ.mono (m _) r W U
 refine {ext:=h.ext.trans ((m λ_=>False).weaken λ_ _ h=>h.elim),oi:=h.oi,ow:=h.ow,iD:=h.iD,qC:=h.qC,base:= ?_,iW:=h.iW.ext h.ext.size (m _),low:=h.low,dL:= ?_,ed:=λid b hid=>h.ed id b hid,inj:= ?_,fresh:= ?_,heap:= ?_,cZ:=λi=>P _ _ (h.cZ i),nt:=h.nt,defers:=h.defers}
 ·exact h.base.grow k gen oC (some w.heap.size) L Q (jg _ _ _) (λb a'=>by cases a';exact .inr h.ext.size) λid q=>ep _ _ _ _ q
 ·intro id hid;have y:s.u id=false:=hid;by_cases e:id=k
  ·subst e;rw[I] at y;cases y
  rw[ep _ _ _ _ e];exact h.dL id y
 ·intro id V b D R;rcases o id b D with ⟨rfl,rfl⟩|C<;>rcases o V _ R with ⟨rfl,e⟩|h4
  ·rfl
  ·have:=(h.fresh _ _ h4).2;omega
  ·subst e;have:=(h.fresh _ _ C).2;omega
  exact h.inj _ _ _ C h4
 ·intro id b a';rcases o id b a' with ⟨rfl,rfl⟩|C
  ·exact⟨.inr h.ext.size,aV⟩
  exact⟨(h.fresh _ _ C).1,by have:=(h.fresh _ _ C).2;simp;omega⟩
 intro id e' p;have p:aU s.H k (some (.arr A (gen+1) l c)) id=some e':=p;show s.u id=true/\cH _ _ (own K _ (aU s.H k (some (.arr A (gen+1) l c)))) id e';by_cases q:id=k
 ·subst q;rw[bW] at p;cases p;refine⟨I,O,Or.inr ⟨w.heap.size,B,bW _ _ _,jB _ _,G,f,λi j n x u aJ a2 a3=>(E i j n x u aJ a2 a3).mono (m _) r⟩⟩
 rw[bX _ _ _ _ q] at p;obtain⟨D,R⟩:=h.heap id e' p;refine⟨D,R.mono (m _) r W (λx M=>by rw[ep _ _ _ _ q];exact M) U λb a'=>yE _ _ _ (h.fresh id b a').2⟩
theorem Rel.bump{K:Ctx}{s:S}(h:Rel K β s a w)(k:Nat)(B:TypeId)(gen c:Nat)(l:List (List T))(q:Option Nat)(C:β k=some (q,gen))(L:s.H k=some (.arr B gen c l)):
  Rel K (β.put k (some (q,gen+1))) {s with H:=aU s.H k (some (.arr B (gen+1) c l))} a w:=by
 have D:s.u k=true:=(h.heap k _ L).1;have F:=(h.heap k _ L).2.1;have m: ∀id b,At (β.put k (some (q,gen+1))) id b->At β id b:=λid b a'=>by
  rcases a' with ⟨g,a'⟩|a'
  ·by_cases p:id=k
   ·subst p;rw[jg] at a';cases a';exact .inl ⟨gen,C⟩
   rw[ep _ _ _ _ p] at a';exact .inl ⟨g,a'⟩
  exact .inr a'
 have r: ∀b,own K (β.put k (some (q,gen+1))) (aU s.H k (some (.arr B (gen+1) c l))) b->own K β s.H b:=by
  rintro b (Q|⟨id,o,A⟩)
  ·exact .inl Q
  refine .inr ⟨id,λR=>?_,m id b A⟩;by_cases p:id=k
  ·subst p;rw[L] at R;cases R
  rw[bX _ _ _ _ p] at o;exact o R
 have G:=AF q q F C;refine {h with base:= ?_,dL:= ?_,inj:= ?_,fresh:=λid b a'=>h.fresh id b (m id b a'),heap:= ?_,cZ:=λi=>(h.cZ i).mono (Ext.refl _ _) (λb _=>r b) G (Shaped.refl _ _)}
 ·exact h.base.grow k gen q q C F (bW _ _ _) (λb a'=> .inl a') λid p=>ep _ _ _ _ p
 ·intro id hid;have y:s.u id=false:=hid;by_cases e:id=k
  ·subst e;rw[D] at y;cases y
  rw[ep _ _ _ _ e];exact h.dL id y
 ·intro id I b o A;exact h.inj id I b (m id b o) (m I b A)
 intro id e' n;have n:aU s.H k (some (.arr B (gen+1) c l)) id=some e':=n;show s.u id=true/\cH _ _ (own K _ (aU s.H k (some (.arr B (gen+1) c l)))) id e';by_cases p:id=k
 ·subst p;rw[bW] at n;cases n;refine⟨D,O,?_⟩;rcases(h.heap id _ L).2.2 with ⟨o,A⟩|⟨b,W,o,A,X,Y,f⟩
  ·rw[C] at o;cases o;exact .inl ⟨bW _ _ _,A⟩
  rw[C] at o;cases o;exact .inr ⟨b,W,bW _ _ _,A,X,Y,λi j U x u aJ a2 a3=>(f i j U x u aJ a2 a3).mono (Ext.refl _ _) λb _=>r b⟩
 rw[bX _ _ _ _ p] at n;obtain⟨o,A⟩:=h.heap id e' n;exact⟨o,A.mono (Ext.refl _ _) (λb _=>r b) G (λx Q=>by rw[ep _ _ _ _ p];exact Q) (Shaped.refl _ _) λ_ _=>rfl⟩
theorem vV{K:Ctx}{s:S}(h:Rel K D s a w):Rel K D s a w.drew:=h.grow (Ext.drew _ _)
theorem vR{n size:Nat}{rows news:List (List T)}(l r m:List Value)(w:rows.length=n)(y:l.length=n*size)(H:r.length=news.length*size)(D: ∀a,a∈rows->a.length=size)(A: ∀a,a∈news->a.length=size){R:T->Value->Prop}
  (F: ∀(i j:Nat) (a:List T) (x:T) (u:Value),rows[i]? =some a->a[j]? =some x->l[i*size+j]? =some u->R x u)
  (G: ∀(i j:Nat) (a:List T) (x:T) (u:Value),news[i]? =some a->a[j]? =some x->r[i*size+j]? =some u->R x u):
  ∀(i j:Nat) (a:List T) (x:T) (u:Value),(rows++news)[i]? =some a->a[j]? =some x->(l++r++m)[i*size+j]? =some u->R x u:=by
 intro i j a x u h q c;by_cases o:i<rows.length
 ·rw[gG o] at h;have k:j<size:=by rw[<-D a (bE h)];exact(bR.1 q).1
  have e:i*size+j<l.length:=by rw[y,<-w];exact mF o k
  rw[gG bQ,gG e] at c;exact F i j a x u h q c
 rw[gF O] at h;have k:j<size:=by rw[<-A a (bE h)];exact(bR.1 q).1
 have B:=(bR.1 h).1;have e:=mF (size:=size) B k;have C:l.length<=i*size+j:=by rw[y,<-w];have:=dA size (O:rows.length<=i);omega
 have p:i*size+j-l.length=(i-rows.length)*size+j:=by rw[y,<-w,th];have:=dA size (O:rows.length<=i);omega
 rw[gG bQ,gF C,p] at c;exact G _ j a x u h q c
theorem Rel.append{K:Ctx}{s:S}{t e:TypeId}{u:TypeDesc}{z:Value}{gen size Y:Nat}(h:Rel K β s a w)(k:Nat)(c l:List (List T))(hk:s.H k=some (.arr e gen size c))(ty:TypeId)
  (hu:K.P.underlying t=some (.slice e)) (he:cd K.P e u z size Y) (qu:z.cells.size=size) (hs: ∀m,m∈c->m.length=size) (k9: ∀m,m∈l->m.length=size) (v x:Value) (bJ:bn β w (own K β s.H) (.bc k gen size 0 c.length) v)
  (hx:Src w (own K β s.H) size l x\/(l=[]/\ ∃iI r,x= .slice iI 0 r)) (a':(c.length+l.length)*Y<=140737488355328) (hm:c.length+l.length<=maxLen):
  ∃dx w' A,(Builtin.append_ #[t,t] ty #[v,x]).run K.P w= .ok dx w'/\Rel K A {s with H:=aU s.H k (some (.arr e (gen+1) size (c++l)))} a w'/\
   bn A w' (own K A (aU s.H k (some (.arr e (gen+1) size (c++l))))) (.bc k (gen+1) size 0 (c.length+l.length)) dx:=by
 obtain⟨q,dj⟩:=jq (h.heap k _ hk).2;have iM:=(h.heap k _ hk).2.1;obtain⟨_,i,f,hi2,U,uC⟩:=id he;have hm':c.length+l.length<=9223372036854775807:=by unfold maxLen at hm;omega
 have jH:=(h.heap k _ hk).2.2;have xI: ∀m,m∈c++l->m.length=size:=λm sp=>by
  rcases d'.1 sp with h|h
  ·exact hs m h
  exact k9 m h
 -- nothing is appended
 have L:l=[]-> ∀iI r,x= .slice iI 0 r-> ∃dx w' A,(Builtin.append_ #[t,t] ty #[v,x]).run K.P w= .ok dx w'/\Rel K A {s with H:=aU s.H k (some (.arr e (gen+1) size (c++l)))} a w'/\
   bn A w' (own K A (aU s.H k (some (.arr e (gen+1) size (c++l))))) (.bc k (gen+1) size 0 (c.length+l.length)) dx:=by
  intro cJ iI r G;subst cJ;subst G;rw[kS];refine⟨v,w,_,?_,h.bump k e gen size c q dj hk,?_⟩
  ·rcases fa bJ dj with ⟨xj,b,n,hD,rfl,I,hw,D,W,cE,mw⟩|⟨I,_,_,rfl⟩
   ·cases iI<;>simp[Builtin.append_,run_underlying hu,sizeOf,typeInfo,f,Builtin.lenOf,Builtin.firstCells,cE,storeCells,loadCells,loadCellsFrom]
   cases iI<;>simp[Builtin.append_,run_underlying hu,sizeOf,typeInfo,f,Builtin.lenOf,Builtin.firstCells,loadCells,loadCellsFrom]
  simp only[List.length_nil,Nat.add_zero];rcases fa bJ dj with ⟨xj,b,n,hD,rfl,I,hw,D,W,cE,mw⟩|⟨I,_,HQ,rfl⟩
  ·subst I;exact .bc k (gen+1) size 0 _ xj b n hD O (bW _ _ _) hw D W cE mw
  subst I;rw[HQ];exact .hz k (gen+1) size O (bW _ _ _)
 rcases hx with (⟨G,W⟩|⟨cu,off,E,B,G,Q,xL,la,hwr⟩)|⟨cJ,iI,r,G⟩
 ·exact L W none 0 G
 ·by_cases mx:l=[]
  ·subst mx;exact L rfl _ _ G
  have adI:0<l.length:=List.length_pos_iff.2 mx;have M: ∀j y,B[j]? =some y->w.cell? ((⟨cu,off,none⟩:Addr).add j)=some y:=λj y hy=>by rw[jh];exact xL j y hy
  have kE:(c.length+l.length)*i.bytes<=140737488355328:=by rw[uC];exact a'
  -- the rows that lie there
  have finish: ∀(X:List Value) (o:Nat),X.length=c.length*size->c.length+l.length<=o->o<=maxLen->(∀(i j:Nat) (m:List T) (x:T) (u:Value),c[i]? =some m->m[j]? =some x->X[i*size+j]? =some u->cX w (own K β s.H) x u)->
    ∃A,Rel K A {s with H:=aU s.H k (some (.arr e (gen+1) size (c++l)))} a (w.drew.alloc (.cells (X.toArray++B.toArray++Builtin.zeroCells z.cells (o-(c.length+l.length))) e))/\
     bn A (w.drew.alloc (.cells (X.toArray++B.toArray++Builtin.zeroCells z.cells (o-(c.length+l.length))) e)) (own K A (aU s.H k (some (.arr e (gen+1) size (c++l))))) (.bc k (gen+1) size 0 (c.length+l.length)) (.slice (some ⟨w.heap.size,0,none⟩) (c.length+l.length) o):=by
   intro X o pf N hcm H3;have V:(X.toArray++B.toArray++Builtin.zeroCells z.cells (o-(c.length+l.length))).size=o*size:=by
    simp only[Array.size_append,List.size_toArray,size_zeroCells,qu,pf,Q,<-Nat.add_mul];congr 1;omega
   have sk:=(vV h).move k e gen size c hk (X.toArray++B.toArray++Builtin.zeroCells z.cells (o-(c.length+l.length))) (c++l)
    (by rw[V,dE];exact dA _ N) xI
    (λi j m x u aJ a2 a3=>vR X B (Builtin.zeroCells z.cells (o-(c.length+l.length))).toList rfl pf Q hs k9 (R:=λx u=>cX w.drew (own K β s.H) x u) (λi j m x u cU cu eT=>(H3 i j m x u cU cu eT).mono (Ext.drew _ _) λ_ _ h=>h)
     (λi j m x u cU cu eT=>(hwr i j m x u cU cu eT).mono (Ext.drew _ _) λ_ _ h=>h) i j m x u aJ a2 (by simpa[<-Array.getElem?_toList] using a3))
   refine⟨_,sk,?_⟩;have il:bn (β.put k (some (some w.heap.size,gen+1))) (w.drew.alloc (.cells (X.toArray++B.toArray++Builtin.zeroCells z.cells (o-(c.length+l.length))) e)) (own K (β.put k (some (some w.heap.size,gen+1))) (aU s.H k (some (.arr e (gen+1) size (c++l))))) (.bc k (gen+1) size 0 (c.length+l.length)) (.slice (some ⟨w.heap.size,0*size,none⟩) (c.length+l.length) o):=by
    have qt:=jB w.drew (.cells (X.toArray++B.toArray++Builtin.zeroCells z.cells (o-(c.length+l.length))) e);refine .bc k (gen+1) size 0 _ o w.heap.size (o*size) e O (bW _ _ _) aV ?_ (by rw[dt]) N hcm;have HT:(w.drew.alloc (.cells (X.toArray++B.toArray++Builtin.zeroCells z.cells (o-(c.length+l.length))) e)).heap[w.heap.size]? =some (.cells (X.toArray++B.toArray++Builtin.zeroCells z.cells (o-(c.length+l.length))) e):=qt;unfold World.shape?;rw[HT];simp only[V]
   rw[gi] at il;exact il
  subst G;rcases fa bJ dj with ⟨r,b,n,hD,rfl,I,hw,D,W,cE,mw⟩|⟨I,_,HN,rfl⟩
  rotate_left
  ·have pd:c=[]:=kQ HN;subst pd;have C:=run_append_nil (P:=K.P) w t ty e i z hu f hi2 ⟨cu,off,none⟩ l.length E B (by rw[U];exact Q) M adI O (by simp at kE;omega);obtain⟨A,f1,f2⟩:=finish [] (grownCap w l.length 0 e) aV (by simpa using grownCap_ge w l.length 0 e) (grownCap_le_maxLen w _ 0 e (by unfold maxLen;simp at hm';omega)) λi j m x u h1 _ _=>by simp at h1
   simp only[List.length_nil,Nat.zero_add] at f1 f2⊢;exact⟨_,_,A,by rw[C];simp,f1,f2⟩
  subst I;rcases jH with ⟨g1,_⟩|⟨gm,p,g1,g2,g3,g4,g5⟩
  ·rw[dj] at g1;cases g1
  rw[dj] at g1;cases g1;have k7:p.size=r*size:=by
   unfold World.shape? at D;rw[g2] at D;simp at D;rw[<-W] at D;rw[dt] at D;exact D.2
  have sq:(p.toList.take (c.length*size)).length=c.length*size:=bQ
  have lS: ∀(i j:Nat) (m:List T) (x:T) (u:Value),c[i]? =some m->m[j]? =some x->(p.toList.take (c.length*size))[i*size+j]? =some u->cX w (own K β s.H) x u:=by
   intro i j m x u h1 h2 h3;rw[ft] at h3;split at h3
   ·exact g5 i j m x u h1 h2 (by simpa using h3)
   cases h3
  simp only[Nat.zero_mul];by_cases F:c.length+l.length<=r
  ·have nu:c.length*size+B.length<=p.size:=by rw[Q,k7,<-dp];exact dA _ F
   have C:=run_append_room (P:=K.P) w t ty e i hu f b c.length r p g2 ⟨cu,off,none⟩ l.length E B (by rw[U];exact Q) M la F (by rw[U];exact nu);rw[U] at C;have uD:(p.toList.take (c.length*size)++B++p.toList.drop (c.length*size+B.length)).toArray.size=p.size:=by
    simp;omega
   have hrel:=h.setRow k b (.inl ⟨_,dj⟩) p e g2 (p.toList.take (c.length*size)++B++p.toList.drop (c.length*size+B.length)).toArray uD (.arr e gen size (c++l)) (by rw[hk];simp)
    ⟨iM,Or.inr ⟨b,_,dj,setRow_heap _ _ _ _ _ _ g2,by rw[uD,k7,dE];exact dA _ F,xI,
     λi j m x u aJ a2 a3=>by
      have h9:=vR (p.toList.take (c.length*size)) B (p.toList.drop (c.length*size+B.length)) rfl sq Q hs k9 (R:=λx u=>cX w (own K β s.H) x u) lS hwr i j m x u aJ a2 (by simpa using a3);refine h9.mono ⟨rfl,rfl,rfl,aV,λkk _ hx=>setRow_other _ _ _ _ λe0=>hx ?_⟩ λ_ _ h=>h;subst e0;exact .inr ⟨k,by rw[hk];simp,.inl ⟨_,dj⟩⟩⟩⟩
   have xF:=hrel.bump k e gen size (c++l) (some b) dj (bW _ _ _);have xv:aU (aU s.H k (some (.arr e gen size (c++l)))) k (some (.arr e (gen+1) size (c++l)))=aU s.H k (some (.arr e (gen+1) size (c++l))):=by
    funext j;by_cases hj:j=k
    ·subst hj;rw[bW,bW]
    rw[bX _ _ _ _ hj,bX _ _ _ _ hj,bX _ _ _ _ hj]
   simp only[xv] at xF;refine⟨_,_,_,C,xF,?_⟩;have il:bn (β.put k (some (some b,gen+1))) (w.setRow b (p.toList.take (c.length*size)++B++p.toList.drop (c.length*size+B.length)).toArray) (own K (β.put k (some (some b,gen+1))) (aU s.H k (some (.arr e (gen+1) size (c++l))))) (.bc k (gen+1) size 0 (c.length+l.length)) (.slice (some ⟨b,0*size,none⟩) (c.length+l.length) r):=by
    refine .bc k (gen+1) size 0 _ r b (r*size) e O (bW _ _ _) (by simpa using hw) ?_ (by rw[dt]) F mw;unfold World.shape?;rw[setRow_heap _ _ _ _ _ _ g2];simp only[uD,k7]
   rw[gi] at il;exact il
  have holds: ∀j u,(p.toList.take (c.length*size))[j]? =some u->w.cell? ((⟨b,0,none⟩:Addr).add j)=some u:=by
   intro j u hj;rw[jh,dt];rw[ft] at hj;split at hj
   ·simp only[World.cell?,g2];simpa using hj
   cases hj
  have C:=run_append_grow (P:=K.P) w t ty e i z hu f hi2 ⟨b,0,none⟩ c.length r (p.toList.take (c.length*size)) (by rw[U];exact sq) holds ⟨cu,off,none⟩ l.length E B (by rw[U];exact Q) M O O (growslice_fits O kE);obtain⟨A,f1,f2⟩:=finish (p.toList.take (c.length*size)) (grownCap w (c.length+l.length) r e) sq (grownCap_ge w _ r e) (grownCap_le_maxLen w _ r e hm) lS;exact⟨_,_,A,C,f1,f2⟩
 exact L cJ iI r G
section ops
variable {K:Ctx} {s:S} {d:Option Tmp} {ty:TypeId} {pos:String} {af:Array Edge} {g:Option (Nat×Bool)}
variable {t:TypeId} {u:TypeDesc} {z:Value} {gen size bytes:Nat}
def Rows(size:Nat)(rows:List (List T)):Prop:= ∀a,a∈rows->a.length=size
theorem Rows.nil(size:Nat):Rows size []:=λ_ h=>by simp at h
theorem Rows.map{k:Type}{size:Nat}{f:k->List T}(l:List k)(h: ∀x,(f x).length=size):Rows size (l.map f):=λa c=>by obtain⟨x,_,rfl⟩:=eP.1 c;exact h x
theorem YK(k:Nat)(x y:Operand)(e:TypeId)(c h:List (List T))(C: ∀i,d=some i->Nat.blt i K.nt=true)(D:s.get x= .bc k gen size 0 c.length)(F:dC (s.get y) (.t (.aD h)))(G:s.H k=some (.arr e gen size c))
  (I:K.P.underlying t=some (.slice e)) (L:cd K.P e u z size bytes) (o:Nat.beq z.cells.size size=true) (R:Nat.blt 0 size=true) (U:Rows size c) (l:Rows size h)
  (W:(c.length+h.length)*bytes<=140737488355328) (j:c.length+h.length<=9223372036854775807):
  dT K ⟨d,.call {callee:= .builtin .append,args:= #[x,y],argTypes:= #[t,t]},ty,pos,af,g⟩ s
   (({s with H:=aU s.H k (some (.arr e (gen+1) size (c++h)))}:S).put d (.bc k (gen+1) size 0 (c.length+h.length))):=by
 intro v a w next Q p q
 have m:=p.get x;rw[D] at m;have r:=F _ _ _ _ (p.get y);have A:0<size:=by simpa[Nat.blt_eq] using R
 obtain⟨X,w',B,Y,b,f⟩:=p.append k c h G ty I L (cN o) U l _ _ m (Ff r l A) W (by unfold maxLen;omega);unfold Oper.wp;have n:(execOp a.eval ⟨d,.call {callee:= .builtin .append,args:= #[x,y],argTypes:= #[t,t]},ty,pos,af,g⟩).run K.P w= .ok (.value X) w':=by
  simp[execOp,resolve,invoke,builtin,Y]
 rw[n];exact q B _ w' (b.put d C f)
theorem LA(L:Nat->V)(k:Nat)(e:TypeId)(F:s.u k=false)(n: ∀(i q:Map) (w:World) (X Q:Nat->Prop) (j:Nat) (u:Value),q k=some (none,1)->(∀v u,bn i w X v u->bn q w Q v u)->bn i w X (s.t j) u->bn q w Q (L j) u):
  s.le K {t:=L,H:=aU s.H k (some (.arr e 1 size [])),u:=aU s.u k true}:=by
 intro i a w h;have r:i k=none:=h.dL _ F;have o: ∀id x,i id=some x->i.put k (some (none,1)) id=some x:=λid x A=>by
  rw[ep _ _ _ _ (by intro e;subst e;rw[r] at A;cases A)];exact A
 have B:=dv.of o;have l: ∀id b,At (i.put k (some (none,1))) id b->id≠k/\At i id b:=λid b a'=>by
  by_cases n:id=k
  ·subst n;rcases a' with ⟨g,a'⟩|a'
   ·rw[jg] at a';cases a'
   exact bB a' (h.ed _ _ F)
  refine⟨n,?_⟩;rcases a' with ⟨g,a'⟩|a'
  ·rw[ep _ _ _ _ n] at a';exact .inl ⟨g,a'⟩
  exact .inr a'
 have p: ∀b,own K (i.put k (some (none,1))) (aU s.H k (some (.arr e 1 size []))) b->own K i s.H b:=by
  rintro b (A|⟨id,y,C⟩)
  ·exact .inl A
  obtain⟨G,R⟩:=l id b C;rw[bX _ _ _ _ G] at y;exact .inr ⟨id,y,R⟩
 have I: ∀v u,bn i w (own K i s.H) v u->bn (i.put k (some (none,1))) w (own K (i.put k (some (none,1))) (aU s.H k (some (.arr e 1 size [])))) v u:=
  λv u U=>U.mono (Ext.refl _ _) (λb _=>p b) B (Shaped.refl _ _)
 refine⟨i.put k (some (none,1)),{h with base:= ?_,low:= ?_,dL:= ?_,ed:= ?_,inj:= ?_,fresh:= ?_,heap:= ?_,cZ:= ?_}⟩
 ·refine h.base.keep λid hid=>?_
  have:=h.low id hid;rw[ep _ _ _ _ (by intro e;subst e;rw[F] at this;cases this)]
 ·intro id hid;show aU s.u k true id=true;by_cases e:id=k
  ·subst e;exact bW _ _ _
  rw[bX _ _ _ _ e];exact h.low id hid
 ·intro id hid;have c:aU s.u k true id=false:=hid;by_cases e:id=k
  ·subst e;rw[bW] at c;cases c
  rw[bX _ _ _ _ e] at c;rw[ep _ _ _ _ e];exact h.dL id c
 ·intro id b hid;have c:aU s.u k true id=false:=hid;by_cases e:id=k
  ·subst e;rw[bW] at c;cases c
  rw[bX _ _ _ _ e] at c;exact h.ed id b c
 ·intro id D b y C;exact h.inj id D b (l id b y).2 (l D b C).2
 ·intro id b a';exact h.fresh id b (l id b a').2
 ·intro id e' m;have m:aU s.H k (some (.arr e 1 size [])) id=some e':=m;show aU s.u k true id=true/\cH _ _ (own K _ (aU s.H k (some (.arr e 1 size [])))) id e';by_cases n:id=k
  ·subst n;rw[bW] at m;cases m;exact⟨bW _ _ _,cQ _,Or.inl ⟨bW _ _ _,rfl⟩⟩
  rw[bX _ _ _ _ n] at m;obtain⟨y,C⟩:=h.heap id e' m;exact⟨by rw[bX _ _ _ _ n];exact y,C.mono (Ext.refl _ _) (λb _=>p b) B (o id) (Shaped.refl _ _) λ_ _=>rfl⟩
 intro j;exact n i _ w _ _ j _ (bW _ _ _) I (h.cZ j)
theorem NH{T:Map}{X Y:Nat->Prop}{i:Nat}{u:Value}(a:D k=some (none,1))(h:bn T w X (.t .fo) u):bn D w Y (.bc k 1 i 0 0) u:=by
 cases h with
 |t _ _ c=>cases c;exact .hz k 1 i (cQ _) a
theorem Zm(i k:Nat)(e:TypeId)(l:s.u k=false)(m:s.t i= .t .fo):s.le K {t:=aU s.t i (.bc k 1 size 0 0),H:=aU s.H k (some (.arr e 1 size [])),u:=aU s.u k true}:=
 LA _ k e l (λp n w X q j u o a h=>by
  by_cases c:j=i
  ·subst c;rw[bW];rw[m] at h;exact NH o h
  rw[bX _ _ _ _ c];exact a _ _ h)
theorem WU(i j k:Nat)(e:TypeId){a:List V}(x:s.u k=false)(y:s.t i= .agg a)(p:a[j]? =some (.t .fo)):s.le K {t:=aU s.t i (.agg (a.set j (.bc k 1 size 0 0))),H:=aU s.H k (some (.arr e 1 size [])),u:=aU s.u k true}:=
 LA _ k e x (λG A w X I B u C l h=>by
  by_cases m:B=i
  ·subst m;rw[bW];rw[y] at h;cases h with|agg _ D F q=>
   refine .agg _ D (by simpa using F) λi c u o r=>?_;by_cases n:i=j
   ·subst n;rw[gj (bR.1 p).1] at o;cases o;exact NH C (q i _ u p r)
   rw[ix (kT n)] at o;exact l _ _ (q i c u o r)
  rw[bX _ _ _ _ m];exact l _ _ h)
theorem Kb(R:Nat->V)(k:Nat)(e:TypeId)(c:List (List T))(U:Nat.ble K.c' k=true)(aH: ∀i,R i=s.t i\/(R i= .t (.aD c)/\s.t i= .bc k gen size 0 c.length))(W:s.H k=some (.arr e gen size c)):
  s.le K {t:=R,H:=aU s.H k none,u:=s.u}:=by
 intro B a w h;have P:=ea U;obtain⟨q,C⟩:=jq (h.heap k _ W).2;have iM:=(h.heap k _ W).2.1;have p: ∀b,own K B (aU s.H k none) b->own K B s.H b:=by
  rintro b (X|⟨id,l,D⟩)
  ·exact .inl X
  by_cases hid:id=k
  ·subst hid;rw[bW] at l;exact bB rfl l
  rw[bX _ _ _ _ hid] at l;exact .inr ⟨id,l,D⟩
 have F: ∀b,q=some b-> ¬own K B (aU s.H k none) b:=by
  rintro b E (X|⟨id,l,D⟩)
  ·subst E;obtain⟨gk,iA⟩:=h.iD b X;rcases(h.fresh k b (.inl ⟨_,C⟩)).1 with r|iN
   ·exact iA r
   omega
  subst E
  have:=h.inj _ _ _ D (.inl ⟨_,C⟩);subst this;rw[bW] at l;exact l rfl
 refine⟨B,{h with heap:= ?_,cZ:= ?_}⟩
 ·intro id e' m;have m:aU s.H k none id=some e':=m;by_cases hid:id=k
  ·subst hid;rw[bW] at m;cases m
  rw[bX _ _ _ _ hid] at m;obtain⟨l,D⟩:=h.heap id e' m;exact⟨l,D.mono (Ext.refl _ _) (λb _=>p b) (dv.refl _) (λ_ h=>h) (Shaped.refl _ _) λ_ _=>rfl⟩
 intro j;show bn B w _ (R j) _;rcases aH j with A|⟨A,aH⟩
 rotate_left
 ·rw[A];have l:=h.cZ j;rw[aH] at l;generalize a.tmps.getD j undef=y at l;rcases fa l C with ⟨Y,b,n,hD,rfl,G,hw,ik,sn,cE,mw⟩|⟨G,_,f,rfl⟩
  ·subst G;rcases(h.heap k _ W).2.2 with ⟨I,_⟩|⟨gm,o,I,g2,g3,M,g5⟩
   ·rw[C] at I;cases I
   rw[C] at I;cases I;rw[gi];refine .t _ _ (.aD c b 0 size Y (λi j=>o.getD (i*size+j) undef) hw (F b rfl) cE M (λi j aH A=>?_) λi j L x v N=>?_)
   ·have Q:=mF (size:=size) aH A
    have:i*size+j<o.size:=O
    simp[World.cell?,g2,this]
   have aH:=(bR.1 v).1;have A:j<size:=by rw[<-M L (bE v)];exact(bR.1 N).1
   have Q:=mF (size:=size) aH A;have r:i*size+j<o.size:=O
   have h6:=g5 i j L x o[i*size+j] v N (by simp[r])
   have:o.getD (i*size+j) undef=o[i*size+j]:=by simp[r]
   rw[this];exact h6.mono (Ext.refl _ _) λb _=>p b
  have:c=[]:=kQ f;subst this;exact .t _ _ (.fY _ _)
 rw[A];exact(h.cZ j).mono (Ext.refl _ _) (λb _=>p b) (dv.refl _) (Shaped.refl _ _)
theorem U7(i k:Nat)(e:TypeId)(a:List (List T))(c:Nat.ble K.c' k=true)(l:s.t i= .bc k gen size 0 a.length)(m:s.H k=some (.arr e gen size a)):
  s.le K {t:=aU s.t i (.t (.aD a)),H:=aU s.H k none,u:=s.u}:=
 Kb _ k e a c (λj=>by
  by_cases h:j=i
  ·subst h;exact .inr ⟨bW _ _ _,l⟩
  exact .inl (bX _ _ _ _ h)) m
theorem VE(x y:Operand)(C i c:Nat)(e:TypeId)(o:List (List T))(l:List T)(m:List T)(hx:s.get x= .cC C gen size i c){v:V}(hle:dC (s.get y) v)(hy:v.cs=m.map .t)(lT:v.val=true)(U:s.H C=some (.arr e gen size o)){A:Nat}(e6:cd K.P t u z A bytes)
  (B:o[i]? =some l) (hs:m.length=A) (cE:c+A<=size):
  dT K ⟨none,.store t x y,ty,pos,af,g⟩ s {s with H:=aU s.H C (some (.arr e gen size (o.set i (l.take c++m++l.drop (c+m.length)))))}:=by
 intro β a w next Q L hk
 have W:=L.get x;rw[hx] at W;obtain⟨q,dj⟩:=jq (L.heap C _ U).2;obtain⟨b,jI,sv⟩:=oB W dj;subst jI;have a':=dj;have aH:=(bR.1 B).1;rcases(L.heap C _ U).2.2 with ⟨_,X⟩|⟨gm,p,h1,X,h3,h4,h5⟩
 ·rw[X] at aH;simp at aH
 rw[a'] at h1;cases h1;obtain⟨c1,c2⟩:=(hle _ _ _ _ (L.get y)).cells lT;rw[hy] at c1 c2;have Y:(a.eval y).cells.size=A:=by rw[c1];simpa using hs
 have hrl:l.length=size:=h4 l (bE B);have agm:i*size+size<=p.size:=by
  have:(i+1)*size<=o.length*size:=dA _ aH;rw[dp] at this;omega
 have f: ∀e∈(a.eval y).cells.toList,e.oneCell'=true:=by
  intro e he;obtain⟨j,hj⟩:=km.1 he;have E:(a.eval y).cells[j]? =some e:=by simpa using hj
  have M:j<m.length:=by have:=(jt.1 E).1;rw[c1] at this;simpa using this
  exact(c2 j (.t m[j]) e (by simp[M]) E).iU rfl
 unfold Oper.wp;have N:=CZ e6 w b (i*size+c) p e (a.eval y) X Y O f;have G:(execOp a.eval ⟨none,.store t x y,ty,pos,af,g⟩).run K.P w= .ok .skip (w.setRow b (p.toList.take (i*size+c)++(a.eval y).cells.toList++p.toList.drop (i*size+c+(a.eval y).cells.toList.length)).toArray):=by
  simp only[execOp,sv,Instr.storeAt,Instr.sureAddr,Sem.run_bind,Sem.run_pure,Result.andThen_ok,N]
 rw[G];have oj:(a.eval y).cells.toList.length=m.length:=by simp[c1]
 have D:(p.toList.take (i*size+c)++(a.eval y).cells.toList++p.toList.drop (i*size+c+(a.eval y).cells.toList.length)).length=p.size:=by
  simp[Y];omega
 refine hk β _ _ (Rel.setRow L C b (.inl ⟨_,a'⟩) p e X _ (by simpa using D) (.arr e gen size (o.set i (l.take c++m++l.drop (c+m.length)))) (by rw[U];simp) ?_);have kD:own K β s.H b:= .inr ⟨C,by rw[U];simp,.inl ⟨_,a'⟩⟩;have I: ∀x u,cX w (own K β s.H) x u->cX (w.setRow b (p.toList.take (i*size+c)++(a.eval y).cells.toList++p.toList.drop (i*size+c+(a.eval y).cells.toList.length)).toArray) (own K β s.H) x u:=by
  intro v u bJ;exact bJ.mono ⟨rfl,rfl,rfl,aV,λk _ hx=>setRow_other _ _ _ _ λe=>hx (e▸kD)⟩ λ_ _ h=>h
 have PV:(l.take c++m++l.drop (c+m.length)).length=size:=bQ
 refine⟨(L.heap C _ U).2.1,Or.inr ⟨b,_,a',setRow_heap _ _ _ _ _ _ X,?_,?_,?_⟩⟩
 ·simp only[List.size_toArray,D,List.length_set];exact h3
 ·intro r adW;rcases q7 adW with h|h
  ·exact h4 r h
  rw[h];exact PV
 intro n j F kn R aJ a2 a3;apply I;have a3:(p.toList.take (i*size+c)++(a.eval y).cells.toList++p.toList.drop (i*size+c+(a.eval y).cells.toList.length))[n*size+j]? =some R:=by simpa using a3
 simp only[List.getElem?_append,List.length_append,List.length_take,List.getElem?_take,List.getElem?_drop,Array.length_toList] at a3;rw[show min (i*size+c) p.size=i*size+c by omega,show(a.eval y).cells.size=m.length by simpa using oj] at a3;by_cases xD:n=i
 ·subst xD;rw[gj aH] at aJ;cases aJ;have hjs:j<size:=by rw[<-PV];exact(bR.1 a2).1
  simp only[List.getElem?_append,List.length_append,List.length_take,List.getElem?_take,List.getElem?_drop,hrl] at a2;rw[show min c size=c by omega] at a2;by_cases cU:j<c
  ·rw[a1 O,a1 cU,a1 cU] at a2;rw[a1 O,a1 O,a1 O] at a3;exact h5 n j l kn R B a2 (by simpa using a3)
  by_cases cu:j<c+m.length
  ·rw[a1 O,aY cU] at a2;rw[a1 O,aY O] at a3;rw[show n*size+j-(n*size+c)=j-c by omega] at a3;have h9:=c2 (j-c) (.t kn) R (by rw[ey,a2];rfl) (by simpa using a3);cases h9 with|t _ _ h=>exact h
  rw[aY O] at a2;rw[aY O] at a3;rw[show c+m.length+(j-(c+m.length))=j by omega] at a2;rw[show n*size+c+m.length+(n*size+j-(n*size+c+m.length))=n*size+j by omega] at a3;exact h5 n j l kn R B a2 (by simpa using a3)
 rw[ix (kT xD)] at aJ;have hjs:j<size:=by rw[<-h4 F (bE aJ)];exact(bR.1 a2).1
 have hold:p[n*size+j]? =some R:=by
  rcases Nat.lt_or_ge n i with M|iN
  ·have:n*size+size<=i*size:=by have:=dA size (O:n+1<=i);rw[dp] at this;omega
   rw[a1 O,a1 O,a1 O] at a3;simpa using a3
  have:i*size+size<=n*size:=by have:=dA size (O:i+1<=n);rw[dp] at this;omega
  rw[aY O] at a3;rw[show i*size+c+m.length+(n*size+j-(i*size+c+m.length))=n*size+j by omega] at a3;simpa using a3
 exact h5 n j F kn R aJ a2 hold
end ops
end Go.Lift
