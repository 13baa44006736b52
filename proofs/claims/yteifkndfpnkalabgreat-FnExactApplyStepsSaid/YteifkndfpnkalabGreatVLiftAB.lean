/- Tools. -/
import Derived.Tactics
import Derived.Deep.Quiet
import Derived.Laws.World
import Derived.Laws.Sem
import Derived.WalkKit
namespace Go.Lift
open Go
abbrev bN:=@decide_eq_false
abbrev bS:=@decide_eq_true
abbrev bg.{u}:=@if_pos.{u}
abbrev be.{u}:=@if_neg.{u}
abbrev br.{u}:=@absurd.{u}
abbrev e3:=@of_decide_eq_true
open Option renaming some -> aa, none -> ak, map_some -> gP
open Bool renaming true -> ab, false -> al, and_eq_true -> cB
open Decidable renaming decide -> aj
open List renaming length_append -> iI, length_take -> mi, replicate -> dh
open Go.Result renaming andThen_ok -> eV
open Go.World renaming shape? -> iZ
open Go.Sem renaming run_bind -> e4, run_pure -> hh
open Nat renaming beq -> b8, blt -> dn, ble -> dA
section
variable {p:Prop}{X W X':Nat->Prop}{a b c w w':World}{v u:Value}{m:Option Nat}{i j k n sz:Nat}
theorem O(h:p:=by omega):p:=h
theorem Z(h:p:=by dsimp only;omega):p:=h
theorem J(h:p:=by kernel_rfl):p:=h
theorem bl(h:p:=by simp):p:=h
theorem ca(h:p:=by simp;omega):p:=h
abbrev bC.{u}:=@List.getElem?_eq_getElem.{u}
abbrev d0.{u}:=@List.getElem?_eq_some_iff.{u}
abbrev bX.{u}:=@List.mem_of_getElem?.{u}
abbrev dc:=@Nat.eq_of_beq_eq_true
abbrev c7:=@Int.toNat_natCast
abbrev c6.{u}:=@List.length_take.{u}
abbrev dQ:=@Nat.mul_le_mul_right
abbrev dP.{u}:=@List.length_append.{u}
abbrev fc.{u}:=@List.getD_eq_getElem?_getD.{u}
abbrev dF.{u,v}:=@List.length_map.{u,v}
abbrev dZ.{u}:=@List.take_length.{u}
abbrev fb:=@Nat.le_of_ble_eq_true
abbrev eW.{u}:=@List.mem_cons_of_mem.{u}
abbrev df:=@Nat.le_refl
abbrev eG.{u,v}:=@List.getElem?_map.{u,v}
abbrev eK.{u}:=@List.take_add_one.{u}
abbrev dy:=@Nat.zero_add
abbrev ft.{u}:=@List.mem_of_mem_drop.{u}
abbrev hz.{u}:=@List.getElem?_append_left.{u}
abbrev hS.{u}:=@List.getElem?_append_right.{u}
abbrev fi.{u}:=@List.mem_cons_self.{u}
abbrev eg.{u}:=@List.mem_cons.{u}
abbrev hT.{u}:=@Array.getElem?_eq_getElem.{u}
abbrev fs.{u}:=@List.getElem?_take.{u}
abbrev fv.{u}:=@List.getElem?_drop.{u}
abbrev iD.{u}:=@Array.getElem?_eq_some_iff.{u}
abbrev gn.{u}:=@List.mem_of_mem_take.{u}
abbrev dN:=@Nat.add_mul
abbrev eX.{u}:=@List.mem_append.{u}
abbrev hR.{u}:=@List.getElem?_set_self.{u}
abbrev fN.{u}:=@List.length_drop.{u}
abbrev fW.{u}:=@List.getElem_mem.{u}
abbrev eH.{u,v}:=@List.mem_map.{u,v}
abbrev kn.{u}:=@List.drop_eq_getElem_cons.{u}
abbrev eO:=@Nat.le_trans
abbrev gL.{u}:=@List.append_assoc.{u}
abbrev fX.{u}:=@List.length_set.{u}
abbrev gy.{u}:=@List.all_eq_true.{u}
abbrev jq.{u}:=@List.mem_iff_getElem?.{u}
abbrev jN.{u}:=@List.take_of_length_le.{u}
abbrev jO.{u}:=@List.drop_eq_nil_of_le.{u}
abbrev gM:=@Bool.eq_iff_iff
abbrev nT.{u}:=@List.eq_nil_of_length_eq_zero.{u}
abbrev gi:=@Bool.true_and
abbrev kW.{u}:=@List.getElem?_of_mem.{u}
abbrev ic.{u,v}:=@List.map_append.{u,v}
abbrev iW.{u}:=@List.any_eq_true.{u}
abbrev ls.{u}:=@List.getElem?_set_ne.{u}
abbrev l6.{u}:=@List.set_append_right.{u}
abbrev gN:=@Nat.zero_mul
abbrev jr.{u}:=@List.append_nil.{u}
abbrev ng.{u}:=@Array.getElem?_toList.{u}
abbrev lu:=@Nat.lt_of_lt_of_le
abbrev l7.{u}:=@Array.length_toList.{u}
abbrev rH.{u}:=@Array.getD_eq_getD_getElem?.{u}
abbrev nW.{u}:=@List.mem_append_left.{u}
abbrev hA:=@Int.le_refl
abbrev lv.{u}:=@List.not_mem_nil.{u}
abbrev ub.{u}:=@List.take_append_of_le_length.{u}
abbrev l8.{u}:=@List.all_eq_false.{u}
abbrev o3.{u}:=@List.mem_append_right.{u}
abbrev ko:=@Bool.and_false
abbrev o4.{u}:=@List.drop_set_of_lt.{u}
abbrev nh:=@Nat.lt_succ_self
abbrev rI:=@Nat.div_lt_iff_lt_mul
abbrev p7.{u,v}:=@List.flatMap_append.{u,v}
abbrev rJ.{u}:=@List.length_singleton.{u}
abbrev nX:=@Nat.lt_of_not_le
abbrev l9:=@Bool.and_assoc
abbrev uc.{u}:=@List.getElem?_replicate.{u}
abbrev kX:=@Nat.sub_self
abbrev p8.{u}:=@List.mem_singleton.{u}
abbrev w4.{u}:=@List.mem_or_eq_of_mem_set.{u}
abbrev o5.{u}:=@List.drop_length.{u}
abbrev ud.{u}:=@List.take_append_drop.{u}
abbrev lx.{u}:=@List.set_set.{u}
abbrev nY:=@Nat.mul_le_mul
abbrev o6:=@Nat.not_lt_zero
abbrev rE.{u}:=@List.set_cons_zero.{u}
abbrev rF.{u}:=@List.pairwise_cons.{u}
abbrev p3:=@Bool.and_eq_true
abbrev wY.{u}:=@List.length_eq_one_iff.{u}
abbrev nU:=@Nat.add_assoc
abbrev o2:=@Int.mul_nonneg
abbrev p4:=@List.range_succ
abbrev zM.{u,v}:=@Option.bind_eq_some_iff.{u,v}
abbrev Eo.{u}:=@List.mem_zipIdx_iff_getElem?.{u}
abbrev nV:=@Nat.add_zero
abbrev p5.{u}:=@List.drop_zero.{u}
abbrev p6.{u,v}:=@List.map_take.{u,v}
abbrev wZ.{u}:=@List.mem_replicate.{u}
abbrev w1.{u}:=@List.filter_append.{u}
abbrev Kv.{u}:=@List.findIdx?_eq_some_iff_getElem.{u}
abbrev Ep.{u}:=@List.exists_mem_of_ne_nil.{u}
abbrev rG:=@Int.mul_le_mul
abbrev tZ.{u}:=@List.nil_append.{u}
abbrev t':=@Nat.one_ne_zero
abbrev ua.{u}:=@List.any_append.{u}
abbrev Kw.{u}:=@Array.eq_empty_of_size_eq_zero.{u}
abbrev w2.{u,v}:=@Array.toList_map.{u,v}
abbrev Kx.{u}:=@List.drop_append_of_le_length.{u}
abbrev Er.{u}:=@List.getElem?_eq_none.{u}
abbrev Es.{u}:=@List.length_replicate.{u}
abbrev w3:=@Nat.zero_ne_one
abbrev w5:=@List.mem_range
abbrev zN:=@Nat.div_add_mod'
abbrev zO.{u,v}:=@List.mem_flatMap.{u,v}
abbrev Et:=@Int.toNat_of_nonneg
abbrev Eu.{u,v,w}:=@List.length_zipWith.{u,v,w}
abbrev zP:=@Nat.min_eq_left
abbrev rK:=@Nat.mod_lt
abbrev uf:=@Nat.sub_mul
inductive T where
  |bool (b:Bool)
  |int (k:IntKind) (n:Int)
  |str (s:List UInt8)
  |bG (rows:List (List T))
  |fp
  |gZ
  |gm
  |l1
  |err
  deriving Inhabited
inductive V where
  |t (x:T)
  |agg (cs:List V)
  |bY (vs:List V)
  |ref (id off:Nat)
  |aU (cells:List T)
  |bf (id gen size off len:Nat)
  |cQ (id gen size i off:Nat)
  |fn (f:FuncId) (ajN:List V)
  |c'
  deriving Inhabited
structure dw where
  ty:TypeId
  size:Nat
  aZ:List (Nat×Nat)
def uZ:List (Nat×Nat)->Nat->Option Nat
  | [],_=>ak
  |p::l,j=>bif b8 p.1 j then aa p.2 else uZ l j
def dw.eb(d:dw)(j:Nat):Option Nat:=uZ d.aZ j
def ai9:dw:=⟨0,0,[]⟩
def U(Γ:List dw)(m:Nat):dw:=Γ.getD m ai9
inductive E where
  |cells (cs:List V)
  |arr (ty:TypeId) (gen size:Nat) (rows:List (List T))
  |aC (Γ:List dw) (m gen:Nat) (rows:List (List T)) (open_:List (Nat×Nat×V))
structure Map where
  f:Nat->Option (Option Nat×Nat)
  n:Nat->Nat->Prop
instance:CoeFun Map (λ_=>Nat->Option (Option Nat×Nat)):=⟨Map.f⟩
def At(a:Map)(c b:Nat):Prop:=(∃g,a c=aa (aa b,g))\/a.n c b
def dT(c a:Map):Prop:= ∀id q g,c id=aa (q,g)->a id=aa (q,g)\/(1<=g/\ ∃e b,a id=aa (e,b)/\g<b)
theorem dT.refl(β:Map):dT β β:=λ_ _ _ h=> .inl h
variable {β G β':Map}{t:List dw}{e:E}
theorem dT.of(h: ∀id x,β id=aa x->G id=aa x):dT β G:=λ_ _ _ a=> .inl (h _ _ a)
structure Ext (X:Nat->Prop) (w w':World):Prop where
  os:w'.os=w.os
  tape:w'.tape=w.tape
  output:w'.output=w.output
  size:w.heap.size<=w'.heap.size
  keep: ∀b,b<w.heap.size-> ¬X b->w'.heap[b]? =w.heap[b]?
theorem Ext.refl(X:Nat->Prop)(w:World):Ext X w w:=⟨rfl,rfl,rfl,df _,λ_ _ _=>rfl⟩
theorem Ext.trans(h:Ext X a b)(k:Ext X b c):Ext X a c:=
  ⟨k.os.trans h.os,k.tape.trans h.tape,k.output.trans h.output,eO h.size k.size,
   λi e l=>(k.keep i (lu e h.size) l).trans (h.keep i e l)⟩
theorem Ext.trans'(h:Ext X a b)(k:Ext (λi=> ¬(i<a.heap.size/\ ¬X i)) b c):Ext X a c:=
  ⟨k.os.trans h.os,k.tape.trans h.tape,k.output.trans h.output,eO h.size k.size,
   λi e l=>(k.keep i (lu e h.size) λm=>m ⟨e,l⟩).trans (h.keep i e l)⟩
theorem Ext.weaken(h:Ext X a b)(e: ∀i,i<a.heap.size->X i->W i):Ext W a b:=
  ⟨h.os,h.tape,h.output,h.size,λi c k=>h.keep i c λl=>k (e i c l)⟩
theorem Ext.drew(X:Nat->Prop)(w:World):Ext X w w.drew:=⟨rfl,rfl,rfl,df _,λ_ _ _=>rfl⟩
theorem AA(w:World)(o:Obj)(k:Nat)(h:k<w.heap.size):(w.alloc o).heap[k]? =w.heap[k]? :=by
  show(w.heap.push o)[k]? =_
  grind
theorem j2(w:World)(o:Obj):(w.alloc o).heap[w.heap.size]? =aa o:=by show(w.heap.push o)[w.heap.size]? =_;simp
theorem Ext.alloc(X:Nat->Prop)(w:World)(o:Obj):Ext X w (w.alloc o):=
  ⟨rfl,rfl,rfl,bl,λk a _=>AA _ _ _ a⟩
theorem td{b:Nat}(h:a.heap[b]? =w.heap[b]?):a.shape? b=w.shape? b:=by unfold iZ;rw[h]
def Shaped(_β:Map)(w a:World):Prop:= ∀b,b<w.heap.size->a.shape? b=w.shape? b
theorem Shaped.refl(β:Map)(w:World):Shaped β w w:=λ_ _=>rfl
theorem qU(e:Ext (λ_=>False) w w'):Shaped G w w':=λb a=>td (e.keep b a λh=>h)
theorem WV(w:World)(a:Addr)(u:Value)(k:Nat)(h:k≠a.block):(w.setCell a u).heap[k]? =w.heap[k]? :=by
  simp only[World.setCell,Array.getElem?_modify]
  grind
theorem Ext.setCell(w:World)(a:Addr)(u:Value)(h:X a.block):Ext X w (w.setCell a u):=
  ⟨rfl,rfl,rfl,bl,λk _ b=>WV _ _ _ _ λe=>b (e▸h)⟩
theorem E9{a:Addr}(h:b.heap[a.block]? =w.heap[a.block]?):b.cell? a=w.cell? a:=by unfold World.cell?;rw[h]
inductive c8 (w:World) (X:Nat->Prop):T->Value->Prop where
  |bool (b:Bool):c8 w X (.bool b) (.bool b)
  |int (k:IntKind) (n:Int):c8 w X (.int k n) (.int k n)
  |str (l:List UInt8):c8 w X (.str l) (.string ⟨l.toArray⟩)
  |gh (a:Option Addr) (cap:Nat):c8 w X (.bG []) (.slice a 0 cap)
  |bG (rows:List (List T)) (b off size cap:Nat) (f:Nat->Nat->Value) (bA:b<w.heap.size) (gj: ¬X b) (Jy:rows.length<=cap)
      (kN: ∀row,row∈rows->row.length=size)
      (bW: ∀i j,i<rows.length->j<size->w.cell? ⟨b,off+i*size+j,ak⟩=aa (f i j))
      (b5: ∀(i j:Nat) (row:List T) (x:T),rows[i]? =aa row->row[j]? =aa x->c8 w X x (f i j)):
      c8 w X (.bG rows) (.slice (aa ⟨b,off,ak⟩) rows.length cap)
  |fp:c8 w X .fp (.slice ak 0 0)
  |gZ:c8 w X .gZ (.pointer ak)
  |gm:c8 w X .gm .nilIface
  |l1:c8 w X .l1 .nilFunc
  |err (t:TypeId) (v:Value):c8 w X .err (.iface t v)
theorem c8.mono{x:T}(h:c8 w X x v)(e:Ext X w w')(A: ∀b,b<w.heap.size->W b->X b):c8 w' W x v:=by
  induction h with
  |bool b=>exact .bool b
  |int k n=>exact .int k n
  |str l=>exact .str l
  |gh a c=>exact .gh a c
  |bG m b r o c f s p q y B _ C=>
    exact .bG m b r o c f (lu s e.size) (λh=>p (A b s h)) q y
      (λi j D F=>by rw[E9 (w:=w) (e.keep b s p)];exact B i j D F) (λi j z x G K=>C i j z x G K)
  |fp=>exact .fp
  |gZ=>exact .gZ
  |gm=>exact .gm
  |l1=>exact .l1
  |err t v=>exact .err t v
inductive bB (β:Map) (w:World) (X:Nat->Prop):V->Value->Prop where
  |t (x:T) (v:Value):c8 w X x v->bB β w X (.t x) v
  |agg (cs:List V) (us:Array Value) (hl:us.size=cs.length) (h: ∀(i:Nat) c u,cs[i]? =aa c->us[i]? =aa u->bB β w X c u):bB β w X (.agg cs) (.agg us)
  |bY (cs:List V) (us:Array Value) (hl:us.size=cs.length) (h: ∀(i:Nat) c u,cs[i]? =aa c->us[i]? =aa u->bB β w X c u):bB β w X (.bY cs) (.tuple us)
  |ref (id off b:Nat) (bA:β id=aa (aa b,0)):bB β w X (.ref id off) (.pointer (aa ⟨b,off,ak⟩))
  |aU (cells:List T) (b off:Nat) (f:Nat->Value) (bA:b<w.heap.size) (gj: ¬X b)
      (bW: ∀j,j<cells.length->w.cell? ⟨b,off+j,ak⟩=aa (f j))
      (b5: ∀(j:Nat) (x:T),cells[j]? =aa x->c8 w X x (f j)):bB β w X (.aU cells) (.pointer (aa ⟨b,off,ak⟩))
  |bf (id gen size off len cap b n:Nat) (ty:TypeId) (bV:1<=gen) (bA:β id=aa (aa b,gen)) (hw:b<w.heap.size) (hs:w.shape? b=aa (ty,n)) (cR:(off+cap)*size=n) (hl:len<=cap) (hm:cap<=maxLen):
      bB β w X (.bf id gen size off len) (.slice (aa ⟨b,off*size,ak⟩) len cap)
  |hq (id gen size:Nat) (bV:1<=gen) (bA:β id=aa (ak,gen)):bB β w X (.bf id gen size 0 0) (.slice ak 0 0)
  |kd (id gen size off len:Nat) (v:Value) (q:Option Nat) (g:Nat) (ep:v.oneCell'=ab) (bA:β id=aa (q,g)) (bV:gen<g):bB β w X (.bf id gen size off len) v
  |cQ (id gen size i off b:Nat) (bV:1<=gen) (bA:β id=aa (aa b,gen)):bB β w X (.cQ id gen size i off) (.pointer (aa ⟨b,i*size+off,ak⟩))
  |k' (id gen size i off:Nat) (v:Value) (q:Option Nat) (g:Nat) (ep:v.oneCell'=ab) (bA:β id=aa (q,g)) (bV:gen<g):bB β w X (.cQ id gen size i off) v
  |fn (f:FuncId) (cs:List V) (us:Array Value) (hl:us.size=cs.length) (h: ∀(i:Nat) c u,cs[i]? =aa c->us[i]? =aa u->bB β w X c u):
      bB β w X (.fn f cs) (.func (.func f) #[] us)
  |c' (v:Value):bB β w X .c' v
theorem bB.mono{x:V}(h:bB β w X x v)(e:Ext X w w')(C: ∀b,b<w.heap.size->X' b->X b)
    (m:dT β β') (D:Shaped β w w'):bB β' w' X' x v:=by
  induction h with
  |t x v h=>exact .t x v (h.mono e C)
  |agg cs y s _ z=>exact .agg cs y s z
  |bY cs y s _ z=>exact .bY cs y s z
  |ref id c b k=>
    rcases m _ _ _ k with h|⟨h,_⟩
    · exact .ref id c b h
    · omega
  |aU cells b c f k A K L=>
    exact .aU cells b c f (lu k e.size) (λh=>A (C b k h)) (λj Q=>by rw[E9 (w:=w) (e.keep b k A)];exact K j Q)
      (λj x h=>(L j x h).mono e C)
  |bf id gen a c len F b n ty o k G R W s u=>
    rcases m _ _ _ k with h|⟨_,p,r,h,l⟩
    · exact .bf id gen a c len F b n ty o h (lu G e.size) (by rw[D b G];exact R) W s u
    · exact .kd id gen a c len _ p r rfl h l
  |hq id gen a o k=>
    rcases m _ _ _ k with h|⟨_,p,r,h,l⟩
    · exact .hq id gen a o h
    · exact .kd id gen a 0 0 _ p r rfl h l
  |kd id gen a c len v q g B k o=>
    rcases m _ _ _ k with h|⟨_,p,r,h,l⟩
    · exact .kd id gen a c len v q g B h o
    · exact .kd id gen a c len v p r B h O
  |cQ id gen a i c b o k=>
    rcases m _ _ _ k with h|⟨_,p,r,h,l⟩
    · exact .cQ id gen a i c b o h
    · exact .k' id gen a i c _ p r rfl h l
  |k' id gen a i c v q g B k o=>
    rcases m _ _ _ k with h|⟨_,p,r,h,l⟩
    · exact .k' id gen a i c v q g B h o
    · exact .k' id gen a i c v p r B h O
  |fn f cs y s _ z=>exact .fn f cs y s z
  |c' v=>exact .c' v
inductive fP (Γ:List dw) (w:World) (X:Nat->Prop):Option Nat->T->Value->(Nat->Prop)->Prop where
  |fm (x:T) (v:Value) (N:Nat->Prop) (h:c8 w X x v) (gd: ∀c,¬N c):fP Γ w X ak x v N
  |nil (m:Nat) (N:Nat->Prop) (gd: ∀c,¬N c):fP Γ w X (aa m) (.bG []) (.slice ak 0 0) N
  |own (m:Nat) (rows:List (List T)) (b cap:Nat) (us:Array Value) (B:Nat->Nat->Nat->Prop) (N:Nat->Prop)
      (hw:w.heap[b]? =aa (.cells us (U Γ m).ty (0,0))) (hs:us.size=cap*(U Γ m).size) (hm:cap<=maxLen) (hl:rows.length<=cap)
      (kN: ∀row,row∈rows->row.length=(U Γ m).size)
      (b5: ∀(i j:Nat) (row:List T) (x:T) (u:Value),rows[i]? =aa row->row[j]? =aa x->us[i*(U Γ m).size+j]? =aa u->fP Γ w X ((U Γ m).eb j) x u (B i j))
      (fC: ∀i j c,B i j c->i<rows.length/\j<(U Γ m).size/\c≠b)
      (cI: ∀i j gW ey c,B i j c->B gW ey c->i=gW/\j=ey)
      (gd: ∀c,N c↔c=b\/ ∃i j,B i j c):
      fP Γ w X (aa m) (.bG rows) (.slice (aa ⟨b,0,ak⟩) rows.length cap) N
theorem fP.mono{x:T}{N:Nat->Prop}(h:fP t w X m x v N)(e:Ext X w w')(r: ∀b,b<w.heap.size->W b->X b)
    (q: ∀b,N b->w'.heap[b]? =w.heap[b]?):fP t w' W m x v N:=by
  induction h with
  |fm x v N h a=>exact .fm x v N (h.mono e r) a
  |nil m N a=>exact .nil m N a
  |own m k b n s B N y l z A o R C D a F=>
    refine .own m k b n s B N ?_ l z A o (λi j p x u G K L=>F i j p x u G K L λc Q=>q c ((a c).2 (.inr ⟨i,j,Q⟩))) C D a;rw[q b ((a b).2 (.inl rfl))];exact y
theorem fP.iff{x:T}{N:Nat->Prop}(h:fP t w X m x v N)(a: ∀c,W c↔N c):fP t w X m x v W:=by
  cases h with
  |fm _ _ _ h e=>exact .fm _ _ _ h (λc k=>e c ((a c).1 k))
  |nil _ _ e=>exact .nil _ _ (λc k=>e c ((a c).1 k))
  |own m i b l o B _ p q r s n y z A e=>exact .own m i b l o B _ p q r s n y z A λc=>(a c).trans (e c)
theorem fP.lt{x:T}{N:Nat->Prop}(h:fP t w X m x v N): ∀c,N c->c<w.heap.size:=by
  induction h with
  |fm _ _ _ _ a=>exact λc e=>br e (a c)
  |nil _ _ a=>exact λc e=>br e (a c)
  |own m k b l q B N r s C D n F y G a z=>
    intro c e;rcases(a c).1 e with rfl|⟨i,j,o⟩
    · exact(iD.1 r).1
    · obtain⟨p,K,_⟩:=y i j c o;have L:=n _ (fW p);have A:i*(U t m).size+j<q.size:=by
        rw[s]
        have:(i+1)*(U t m).size<=l*(U t m).size:=dQ _ O;rw[dN] at this;omega
      exact z i j _ (k[i][j]' O) _ (bC p) (bC O) (hT A) c o
theorem fP.wK{x:T}{N:Nat->Prop}(h:fP t w X m x v N)(A: ∀b,W b->X b)(l: ∀b,N b-> ¬W b):c8 w W x v:=by
  induction h with
  |fm x v N h q=>exact h.mono (Ext.refl _ _) (λb _=>A b)
  |nil m N q=>exact .gh _ _
  |own m n b e k B N s y L C o Q R f q D=>
    refine .bG n b 0 (U t m).size e (λi j=>k.getD (i*(U t m).size+j) undef) (iD.1 s).1 (l b ((q b).2 (.inl rfl))) C o (λi j aL F=>?_) λi j p x r z=>?_
    · have a:i*(U t m).size+j<k.size:=by
        rw[y]
        have:(i+1)*(U t m).size<=e*(U t m).size:=dQ _ O;rw[dN] at this;omega
      simp[World.cell?,s,a]
    · have aL:=(d0.1 r).1;have F:j<(U t m).size:=by rw[<-o p (bX r)];exact(d0.1 z).1
      have a:i*(U t m).size+j<k.size:=by
        rw[y]
        have:(i+1)*(U t m).size<=e*(U t m).size:=dQ _ O;rw[dN] at this;omega
      have G:k.getD (i*(U t m).size+j) undef=k[i*(U t m).size+j]:=by simp[a]
      show c8 w W x (k.getD (i*(U t m).size+j) undef);rw[G];exact D i j p x _ r z (hT a) λc K=>l c ((q c).2 (.inr ⟨i,j,K⟩))
def Cell(a:List dw)(m:Nat)(b:List (Nat×Nat×V))(β:Map)(w:World)(X:Nat->Prop)(i j:Nat)(x:T)(u:Value)(N:Nat->Prop):Prop:=
  (∀v,(i,j,v)∈b->bB β w X v u/\ ∀c,¬N c)/\((∀v,(i,j,v)∉b)->fP a w X ((U a m).eb j) x u N)
theorem Cell.mono{m:Nat}{S:List (Nat×Nat×V)}{x:T}{N:Nat->Prop}(h:Cell t m S β w X i j x u N)
    (e:Ext X w w') (l: ∀b,b<w.heap.size->W b->X b) (a:dT β β') (c:Shaped β w w') (k: ∀b,N b->w'.heap[b]? =w.heap[b]?):Cell t m S β' w' W i j x u N:=
  ⟨λv n=>⟨(h.1 v n).1.mono e l a c,(h.1 v n).2⟩,λo=>(h.2 o).mono e l k⟩
theorem Cell.none{m:Nat}{x:T}{N:Nat->Prop}(h:Cell t m [] β w X i j x u N):fP t w X ((U t m).eb j) x u N:=h.2 λ_ a=>lv a
theorem Cell.of{m:Nat}{x:T}{N:Nat->Prop}(h:fP t w X ((U t m).eb j) x u N):Cell t m [] β w X i j x u N:=⟨λ_ a=>br a lv,λ_=>h⟩
def c4(β:Map)(w:World)(X:Nat->Prop)(l:Nat):E->Prop
  | .cells cs=> ∃(b:Nat) (h:Array Value) (ty:TypeId),β l=aa (aa b,0)/\w.heap[b]? =aa (.cells h ty (0,0))/\h.size=cs.length/\
      ∀(i:Nat) c u,cs[i]? =aa c->h[i]? =aa u->bB β w X c u
  | .arr ty gen k a=>1<=gen/\((β l=aa (ak,gen)/\a=[])\/ ∃(b:Nat) (h:Array Value),β l=aa (aa b,gen)/\w.heap[b]? =aa (.cells h ty (0,0))/\
      a.length*k<=h.size/\(∀e,e∈a->e.length=k)/\
      ∀(i j:Nat) (e:List T) (x:T) (u:Value),a[i]? =aa e->e[j]? =aa x->h[i*k+j]? =aa u->c8 w X x u)
  | .aC o m gen a r=>1<=gen/\((β l=aa (ak,gen)/\a=[]/\(∀c,¬β.n l c))\/ ∃(b:Nat) (h:Array Value) (B:Nat->Nat->Nat->Prop),β l=aa (aa b,gen)/\
      w.heap[b]? =aa (.cells h (U o m).ty (0,0))/\a.length*(U o m).size<=h.size/\(∀e,e∈a->e.length=(U o m).size)/\
      (∀(i j:Nat) (e:List T) (x:T) (u:Value),a[i]? =aa e->e[j]? =aa x->h[i*(U o m).size+j]? =aa u->Cell o m r β w X i j x u (B i j))/\
      (∀i j c,B i j c->i<a.length/\j<(U o m).size/\c≠b)/\(∀i j p q c,B i j c->B p q c->i=p/\j=q)/\ ∀c,β.n l c↔ ∃i j,B i j c)
theorem c4.mono{T:E}(h:c4 β w X k T)(e:Ext X w w')(F: ∀b,b<w.heap.size->W b->X b)
    (r:dT β β') (o: ∀x,β k=aa x->β' k=aa x) (s:Shaped β w w') (a: ∀b,At β k b->w'.heap[b]? =w.heap[b]?) (K: ∀b,β'.n k b↔β.n k b:=by exact λ_=>Iff.rfl):c4 β' w' W k T:=by
  cases T with
  |cells cs=>
    obtain⟨b,y,ty,l,p,z,A⟩:=h;exact⟨b,y,ty,o _ l,by rw[a b (.inl ⟨_,l⟩)];exact p,z,λi c u C R=>(A i c u C R).mono e F r s⟩
  |arr ty gen L D=>
    refine⟨h.1,?_⟩;rcases h.2 with ⟨l,p⟩|⟨b,y,l,p,z,A,G⟩
    · exact .inl ⟨o _ l,p⟩
    · exact .inr ⟨b,y,o _ l,by rw[a b (.inl ⟨_,l⟩)];exact p,z,A,λi j q x u aP a2 a3=>(G i j q x u aP a2 a3).mono e F⟩
  |aC I m gen D M=>
    refine⟨h.1,?_⟩;rcases h.2 with ⟨l,p,f⟩|⟨b,y,B,l,p,z,A,G,t,v,Q⟩
    · exact .inl ⟨o _ l,p,λc C=>f c ((K c).1 C)⟩
    · refine .inr ⟨b,y,B,o _ l,by rw[a b (.inl ⟨_,l⟩)];exact p,z,A,λi j q x u aP a2 a3=>(G i j q x u aP a2 a3).mono e F r s λc C=>a c (.inr ((Q c).2 ⟨i,j,C⟩)),t,v,λc=>(K c).trans (Q c)⟩
def Map.put(β:Map)(d:Nat)(x:Option (Option Nat×Nat)):Map:=⟨λi=>bif b8 i d then x else β i,β.n⟩
theorem f5(a:Map)(d:Nat)(x:Option (Option Nat×Nat)):a.put d x d=x:=by simp[Map.put]
theorem fw(a:Map)(d i:Nat)(x:Option (Option Nat×Nat))(h:i≠d):a.put d x i=a i:=by
  have:b8 i d=al:=by cases b:b8 i d with
    |false=>rfl
    |true=>exact br (dc b) h
  simp[Map.put,this]
def bb{α:Type}(f:Nat->α)(d:Nat)(v:α):Nat->α:=λi=>bif b8 i d then v else f i
theorem cy{k:Type}(f:Nat->k)(d:Nat)(v:k):bb f d v d=v:=by simp[bb]
theorem cu{k:Type}(f:Nat->k)(d i:Nat)(v:k)(h:i≠d):bb f d v i=f i:=by
  have:b8 i d=al:=by cases a:b8 i d with
    |false=>rfl
    |true=>exact br (dc a) h
  simp[bb,this]
structure S where
  t:Nat->V
  H:Nat->Option E
  u:Nat->Bool
structure fh where
  za:Nat
  W:World
def fh.ok(G:fh)(w:World):Prop:=G.za<=w.heap.size/\ ∀b,b<G.za->w.heap[b]? =G.W.heap[b]?
structure Ctx where
  P:Program
  G:fh
  w0:World
  X:Nat->Prop
  ef:Nat
  hi:Map
  nt:Nat
def Ctx.M(K:Ctx)(b:Nat):Prop:= ∃id,id<K.ef/\At K.hi id b
def own(K:Ctx)(β:Map)(H:Nat->Option E)(b:Nat):Prop:=K.X b\/ ∃id,H id≠ak/\At β id b
def ku(n:Nat)(a c:Map)(i:Nat):Prop:= ∀id,id<n->(c id=a id)\/ ∃q g e h,a id=aa (q,g)/\1<=g/\c id=aa (e,h)/\g<h/\ ∀b,e=aa b->q=aa b\/i<=b
theorem ku.refl(n:Nat)(β:Map)(sz:Nat):ku n β β sz:=λ_ _=> .inl rfl
theorem ku.keep{V U:Map}(h:ku n G V sz)(a: ∀id,id<n->U id=V id):ku n G U sz:=λid hid=>by rw[a id hid];exact h id hid
theorem ku.more{U V:Map}(h:ku n U V sz)(l: ∀id,id<n->(G id=V id)\/ ∃q g a i,V id=aa (q,g)/\1<=g/\G id=aa (a,i)/\g<i/\ ∀b,a=aa b->q=aa b\/sz<=b):ku n U G sz:=by
  intro id hid;rcases l id hid with e|⟨q,g,a,i,aP,a2,a3,a4,a5⟩
  · rw[e];exact h id hid
  · rcases h id hid with e|⟨m,o,x,y,p,r,k,z,s⟩
    · exact .inr ⟨q,g,a,i,by rw[<-e];exact aP,a2,a3,a4,a5⟩
    · rw[aP] at k;cases k;exact .inr ⟨m,o,a,i,p,r,a3,O,λb w=>by
        rcases a5 b w with c|c
        · exact s b c
        · exact .inr c⟩
theorem ku.grow{U V:Map}(h:ku n U V sz)(k gen:Nat)(q c:Option Nat)(l:V k=aa (q,gen))(r:1<=gen)(m:G k=aa (c,gen+1))(a: ∀b,c=aa b->q=aa b\/sz<=b)
    (s: ∀id,id≠k->G id=V id):ku n U G sz:=by
  intro id hid;by_cases o:id=k
  · subst o;rcases h id hid with e|⟨w,x,B,C,e,y,p,D,z⟩
    · exact .inr ⟨q,gen,c,gen+1,by rw[<-e];exact l,r,m,nh _,a⟩
    · rw[l] at p;cases p;exact .inr ⟨w,x,c,gen+1,e,y,m,O,λb A=>by
        rcases a b A with i|i
        · exact z b i
        · exact .inr i⟩
  · rw[s id o];exact h id hid
theorem Shaped.ext(h:Shaped G a w)(c:a.heap.size<=w.heap.size)(e:Ext (λ_=>False) w w'):Shaped G a w':=
  λb i=>(td (e.keep b (lu i c) λh=>h)).trans (h b i)
structure Rel (K:Ctx) (β:Map) (s:S) (a:Act) (w:World):Prop where
  ext:Ext K.M K.w0 w
  qV:K.G.ok K.w0
  ri: ∀b,K.M b->K.G.za<=b
  kq: ∀b,K.X b->b<K.w0.heap.size/\ ¬K.M b
  base:ku K.ef K.hi β K.w0.heap.size
  jL:Shaped K.hi K.w0 w
  low: ∀id,id<K.ef->s.u id=ab
  dY: ∀id,s.u id=al->β id=ak
  eB: ∀id b,s.u id=al-> ¬β.n id b
  vS: ∀id lf b,At K.hi id b->At K.hi lf b->id=lf
  inj: ∀id lf b,At β id b->At β lf b->id=lf
  fresh: ∀id b,At β id b->(K.M b\/K.w0.heap.size<=b)/\b<w.heap.size
  heap: ∀id e,s.H id=aa e->s.u id=ab/\c4 β w (own K β s.H) id e
  dz: ∀i,bB β w (own K β s.H) (s.t i) (a.tmps.getD i undef)
  nt:a.tmps.size=K.nt
  defers:a.defers=[]
theorem Yc{G:fh}(h:G.ok w)(e:Ext X w w')(c: ∀b,X b->G.za<=b):G.ok w':=
  ⟨eO h.1 e.size,λb a=>(e.keep b (lu a h.1) λi=>by have:=c b i;omega).trans (h.2 b a)⟩
variable {K:Ctx}
theorem Rel.Df{s:S}{a:Act}(h:Rel K β s a w):K.G.ok w:=Yc h.qV h.ext h.ri
mutual
def V.ok(u:Nat->Bool):V->Bool
  | .ref id _=>u id
  | .bf id _ _ _ _=>u id
  | .cQ id _ _ _ _=>u id
  | .agg cs=>gI u cs
  | .bY cs=>gI u cs
  | .fn _ cs=>gI u cs
  | .t _=>ab
  | .aU _=>ab
  | .c'=>ab
def gI(u:Nat->Bool):List V->Bool
  | []=>ab
  |c::cs=>V.ok u c&&gI u cs
end
theorem wX{u:Nat->Bool}: ∀{cs:List V} {i:Nat} {c:V},gI u cs=ab->cs[i]? =aa c->V.ok u c=ab
  | [],_,_,_,h=>by simp at h
  |c::cs,0,_,h,a=>by simp at a;subst a;simp[gI] at h;exact h.1
  |c::cs,i+1,_,h,a=>by simp at a;simp[gI] at h;exact wX h.2 a
theorem bB.under{u:Nat->Bool}{x:V}(h:bB β w X x v)(A: ∀b,X' b->X b)
    (l: ∀id,u id=ab->β' id=β id) (p:x.ok u=ab):bB β' w X' x v:=by
  induction h with
  |t x v h=>exact .t x v (h.mono (Ext.refl _ _) λb _=>A b)
  |agg cs s k _ y=>exact .agg cs s k (λi c u o z=>y i c u o z (wX (by simpa[V.ok] using p) o))
  |bY cs s k _ y=>exact .bY cs s k (λi c u o z=>y i c u o z (wX (by simpa[V.ok] using p) o))
  |ref id e b n=>exact .ref id e b (by rw[l id (by simpa[V.ok] using p)];exact n)
  |aU cells b e f n B o F=>exact .aU cells b e f n (λh=>B (A _ h)) o (λj x h=>(F j x h).mono (Ext.refl _ _) λb _=>A b)
  |bf id gen a e len C b m ty r n G K L k Q=>exact .bf id gen a e len C b m ty r (by rw[l id (by simpa[V.ok] using p)];exact n) G K L k Q
  |hq id gen a r n=>exact .hq id gen a r (by rw[l id (by simpa[V.ok] using p)];exact n)
  |kd id gen a e len v q g D n r=>exact .kd id gen a e len v q g D (by rw[l id (by simpa[V.ok] using p)];exact n) r
  |cQ id gen a i e b r n=>exact .cQ id gen a i e b r (by rw[l id (by simpa[V.ok] using p)];exact n)
  |k' id gen a i e v q g D n r=>exact .k' id gen a i e v q g D (by rw[l id (by simpa[V.ok] using p)];exact n) r
  |fn f cs s k _ y=>exact .fn f cs s k (λi c u o z=>y i c u o z (wX (by simpa[V.ok] using p) o))
  |c' v=>exact .c' v
def vf(u:Nat->Bool):List (Nat×Nat×V)->Bool
  | []=>ab
  |h::a=>h.2.2.ok u&&vf u a
theorem Hc{u:Nat->Bool}: ∀{a:List (Nat×Nat×V)} {i j:Nat} {v:V},vf u a=ab->(i,j,v)∈a->v.ok u=ab
  | [],_,_,_,_,h=>by cases h
  |h::a,i,j,v,b,hm=>by
    simp only[vf,cB] at b;rcases eg.1 hm with rfl|hm
    · exact b.1
    · exact Hc b.2 hm
def E.ok(u:Nat->Bool):E->Bool
  | .cells cs=>gI u cs
  | .arr _ _ _ _=>ab
  | .aC _ _ _ _ a=>vf u a
def S.le(K:Ctx)(s s':S):Prop:= ∀β a w,Rel K β s a w-> ∃b,Rel K b s' a w
theorem S.le.refl(K:Ctx)(s:S):s.le K s:=λβ _ _ h=>⟨β,h⟩
theorem S.le.trans{a b c:S}(h:a.le K b)(k:b.le K c):a.le K c:=λβ x w i=>let ⟨e,l⟩:=h β x w i;k e x w l
def dI(v b:V):Prop:= ∀a w X u,bB a w X v u->bB a w X b u
theorem dI.refl(v:V):dI v v:=λ_ _ _ _ h=>h
theorem dI.of_eq{v ea:V}(h:v=ea):dI v ea:=h▸dI.refl v
theorem dI.nil:dI (.t .fp) (.t (.bG [])):=by intro β w X u h;cases h with|t _ _ h=>cases h;exact .t _ _ (.gh _ _)
theorem dI.c'(v:V):dI v .c':=λ_ _ _ _ _=> .c' _
theorem dI.trans{a b c:V}(h:dI a b)(k:dI b c):dI a c:=λe w X u i=>k e w X u (h e w X u i)
def fH:List V->List V->Prop
  | [],[]=>True
  |v::b,c::a=>dI v c/\fH b a
  |_,_=>False
theorem fH.refl: ∀a:List V,fH a a
  | []=>trivial
  |v::a=>⟨dI.refl v,fH.refl a⟩
theorem fH.get: ∀{b a:List V},fH b a->b.length=a.length/\ ∀(i:Nat) c,a[i]? =aa c-> ∃v,b[i]? =aa v/\dI v c
  | [],[],_=>⟨rfl,λi c h=>by simp at h⟩
  |v::b,c::a,h=>by
    obtain⟨k,l⟩:=fH.get h.2;refine⟨by simp[k],λi x e=>?_⟩;cases i with
    |zero=>simp at e;subst e;exact⟨v,rfl,h.1⟩
    |succ i=>simp at e;exact l i x e
  | [],_::_,h=>h.elim
  |_::_,[],h=>h.elim
theorem dI.agg{a Y:List V}(h:fH a Y):dI (.agg a) (.agg Y):=by
  intro q w X u b;obtain⟨r,e⟩:=h.get;cases b with
  |agg _ k s l=>exact .agg _ k O λi c u m n=>by obtain⟨v,o,p⟩:=e i c m;exact p _ _ _ _ (l i v u o n)
theorem dI.bY{a Y:List V}(h:fH a Y):dI (.bY a) (.bY Y):=by
  intro q w X u b;obtain⟨r,e⟩:=h.get;cases b with
  |bY _ k s l=>exact .bY _ k O λi c u m n=>by obtain⟨v,o,p⟩:=e i c m;exact p _ _ _ _ (l i v u o n)
def jR(e a:E):Prop:=match e,a with
  | .cells cs,.cells b=>fH cs b
  |e,a=>e=a
theorem jR.refl(e:E):jR e e:=by cases e with
  |cells cs=>exact fH.refl cs
  |arr=>rfl
  |aC=>rfl
theorem jR.tQ{e':E}(h:jR e e')(k:c4 G w X n e):c4 G w X n e':=by
  cases e with
  |cells cs=>
    cases e' with
    |cells o=>
      obtain⟨C,p⟩:=fH.get h;obtain⟨b,q,ty,r,s,D,x⟩:=k;exact⟨b,q,ty,r,s,O,λi c u y z=>by obtain⟨v,A,B⟩:=p i c y;exact B _ _ _ _ (x i v u A z)⟩
    |arr=>cases h
    |aC=>cases h
  |arr ty gen l a=>
    cases e' with
    |cells=>cases h
    |arr=>cases h;exact k
    |aC=>cases h
  |aC F m gen a K=>
    cases e' with
    |cells=>cases h
    |arr=>cases h
    |aC=>cases h;exact k
def pd(t:Nat->V)(u:Nat->Bool)(a:Nat->V):Prop:= ∀i,a i= .c'\/(dI (t i) (a i)/\(a i).ok u=ab)
def lD(H:Nat->Option E)(u:Nat->Bool)(b:Nat->Option E):Prop:= ∀id e,b id=aa e->(∃a,H id=aa a/\jR a e)/\u id=ab/\e.ok u=ab
def uG(u a:Nat->Bool):Prop:= ∀id,a id=ab->u id=ab
def mR:Nat->(Nat->Bool)->Bool
  |0,_=>ab
  |n+1,u=>u n&&mR n u
theorem Fs{u:Nat->Bool}: ∀{n:Nat},mR n u=ab-> ∀id,id<n->u id=ab
  |0,_,_,h=>br h (o6 _)
  |n+1,h,id,hid=>by
    simp[mR] at h;by_cases e:id=n
    · subst e;exact h.1
    · exact Fs h.2 id O
def pW:Nat->V:=λ_=> .c'
def mY:Nat->Option E:=λ_=>ak
def gG:Nat->Bool:=λ_=>al
theorem pd.nil(t:Nat->V)(u:Nat->Bool):pd t u pW:=λ_=> .inl rfl
theorem pd.bb{t:Nat->V}{u:Nat->Bool}{r:Nat->V}{d:Nat}{v:V}(h:dI (t d) v)(b:v.ok u=ab)(c:pd t u r):pd t u (Lift.bb r d v):=by
  intro i;by_cases a:i=d
  · subst a;rw[cy];exact .inr ⟨h,b⟩
  · rw[cu _ _ _ _ a];exact c i
theorem lD.nil(H:Nat->Option E)(u:Nat->Bool):lD H u mY:=λ_ _ h=>by simp[mY] at h
theorem lD.bb{H:Nat->Option E}{u:Nat->Bool}{r:Nat->Option E}{d:Nat}(b:E)(h:H d=aa b)(k:jR b e)(l:u d=ab)(m:e.ok u=ab)(n:lD H u r):lD H u (Lift.bb r d (aa e)):=by
  intro i e' a;by_cases c:i=d
  · subst c;rw[cy] at a;cases a;exact⟨⟨b,h,k⟩,l,m⟩
  · rw[cu _ _ _ _ c] at a;exact n i e' a
theorem uG.nil(u:Nat->Bool):uG u gG:=λ_ h=>by simp[gG] at h
theorem uG.bb{u r:Nat->Bool}{d:Nat}(h:u d=ab)(c:uG u r):uG u (Lift.bb r d ab):=by
  intro i a;by_cases b:i=d
  · subst b;exact h
  · rw[cu _ _ _ _ b] at a;exact c i a
theorem c4.under{u:Nat->Bool}(h:c4 β w X k e)(C: ∀b,W b->X b)
    (a: ∀k,u k=ab->β' k=β k) (l:u k=ab) (G:e.ok u=ab) (K: ∀b,β'.n k b↔β.n k b:=by exact λ_=>Iff.rfl):c4 β' w W k e:=by
  cases e with
  |cells cs=>
    obtain⟨b,r,ty,p,q,s,y⟩:=h;exact⟨b,r,ty,by rw[a k l];exact p,q,s,λi c u D Q=>(y i c u D Q).under C a (wX G D)⟩
  |arr ty gen L z=>
    refine⟨h.1,?_⟩;rcases h.2 with ⟨p,q⟩|⟨b,r,p,q,s,y,A⟩
    · exact .inl ⟨by rw[a k l];exact p,q⟩
    · exact .inr ⟨b,r,by rw[a k l];exact p,q,s,y,λi j o x u aP a2 a3=>(A i j o x u aP a2 a3).mono (Ext.refl _ _) λb _=>C b⟩
  |aC N m gen z S=>
    refine⟨h.1,?_⟩;rcases h.2 with ⟨p,q,R⟩|⟨b,r,B,p,q,s,y,A,f,t,I⟩
    · exact .inl ⟨by rw[a k l];exact p,q,λc D=>R c ((K c).1 D)⟩
    · refine .inr ⟨b,r,B,by rw[a k l];exact p,q,s,y,λi j o x u aP a2 a3=>⟨λv F=>⟨((A i j o x u aP a2 a3).1 v F).1.under C a (Hc G F),((A i j o x u aP a2 a3).1 v F).2⟩,
        λM=>((A i j o x u aP a2 a3).2 M).mono (Ext.refl _ _) (λb _=>C b) λ_ _=>rfl⟩,f,t,λc=>(K c).trans (I c)⟩
def cut(β:Map)(u:Nat->Bool):Map:=⟨λid=>bif u id then β id else ak,λid b=>u id=ab/\β.n id b⟩
theorem CD{u:Nat->Bool}{b:Nat}(h:At (cut G u) i b):At G i b:=by
  rcases h with ⟨g,h⟩|h
  · refine .inl ⟨g,?_⟩;by_cases a:u i=ab
    · simpa[cut,a] using h
    · simp[cut,a] at h
  · exact .inr h.2
theorem x8{u:Nat->Bool}{id:Nat}(h:u id=ab):cut G u id=G id:=by simp[cut,h]
theorem Fv{s s':S}(c:lD s.H s'.u s'.H): ∀b,own K (cut β s'.u) s'.H b->own K β s.H b:=by
  rintro b (h|⟨id,i,k⟩)
  · exact .inl h
  · cases a:s'.H id with
    |none=>exact br a i
    |some e=>
      obtain⟨m,l,_⟩:=(c id e a).1;exact .inr ⟨id,by rw[l];simp,CD k⟩
theorem Rel.cut{s s':S}{a:Act}(l:Rel K β s a w)(q:pd s.t s'.u s'.t)(p:lD s.H s'.u s'.H)(n:mR K.ef s'.u=ab):Rel K (cut β s'.u) s' a w:=by
  have c:=Fv (K:=K) (β:=β) p;refine {l with base:= ?_,low:=Fs n,dY:= ?_,eB:= ?_,inj:= ?_,fresh:= ?_,heap:= ?_,dz:= ?_}
  · exact l.base.keep λid hid=>x8 (Fs n id hid)
  · intro id hid;simp[Lift.cut,hid]
  · intro id b hid h;rw[h.1] at hid;cases hid
  · intro id o b m k;exact l.inj id o b (CD m) (CD k)
  · intro id b h;exact l.fresh id b (CD h)
  · intro id e r;obtain⟨⟨x,m,n⟩,k,y⟩:=p id e r;exact⟨k,(n.tQ (l.heap id x m).2).under c (λ_ h=>x8 h) k y λ_=>⟨λh=>h.2,λh=>⟨k,h⟩⟩⟩
  · intro i;rcases q i with h|⟨m,k⟩
    · rw[h];exact .c' _
    · exact(m _ _ _ _ (l.dz i)).under c (λ_ h=>x8 h) k
theorem aec{s s':S}(a:pd s.t s'.u s'.t)(b:lD s.H s'.u s'.H)(_hu:uG s.u s'.u)(c:mR K.ef s'.u=ab):s.le K s':=
  λe _ _ h=>⟨Lift.cut e s'.u,h.cut a b c⟩
def Bs:Value->V
  | .bool b=> .t (.bool b)
  | .int k n=> .t (.int k n)
  | .string s=> .t (.str s.data.toList)
  | .slice ak 0 0=> .t .fp
  | .pointer ak=> .t .gZ
  | .nilIface=> .t .gm
  | .nilFunc=> .t .l1
  |_=> .c'
def d7:Value->V
  | .agg cs=> .agg (cs.toList.map Bs)
  |v=>Bs v
def S.get(s:S):Operand->V
  | .tmp t=>s.t t
  | .const v=>d7 v
  | .func f=> .fn f []
  | .global _=> .c'
theorem LY(a:Map)(w:World)(X:Nat->Prop)(v:Value):bB a w X (Bs v) v:=by
  unfold Bs;split
  · exact .t _ _ (.bool _)
  · exact .t _ _ (.int _ _)
  · rename_i s;have h:=c8.str (w:=w) (X:=X) s.data.toList;exact .t _ _ (by simpa using h)
  · exact .t _ _ .fp
  · exact .t _ _ .gZ
  · exact .t _ _ .gm
  · exact .t _ _ .l1
  · exact .c' _
theorem zF(β:Map)(w:World)(X:Nat->Prop)(v:Value):bB β w X (d7 v) v:=by
  unfold d7;split
  · rename_i cs;exact .agg _ _ bl (λi c u a e=>by
      simp only[List.getElem?_map,Array.getElem?_toList,Option.map_eq_some_iff] at a;obtain⟨k,b,h⟩:=a;rw[e] at b;cases b;rw[<-h];exact LY _ _ _ _)
  · exact LY _ _ _ _
def dr(β:Map)(w:World)(X:Nat->Prop):List V->List Value->Prop
  | [],[]=>True
  |v::a,u::b=>bB β w X v u/\dr β w X a b
  |_,_=>False
theorem dr.mono{β β':Map}{w w':World}{X W:Nat->Prop}: ∀{c:List V} {i:List Value},dr β w X c i->Ext X w w'->(∀b,b<w.heap.size->W b->X b)->
    dT β β'->Shaped β w w'->dr β' w' W c i
  | [],[],_,_,_,_,_=>trivial
  |_::_,_::_,h,e,k,a,l=>⟨h.1.mono e k a l,dr.mono h.2 e k a l⟩
  | [],_::_,h,_,_,_,_=>h.elim
  |_::_,[],h,_,_,_,_=>h.elim
theorem dr.le: ∀{β:Map} {w:World} {X:Nat->Prop} {b a:List V} {c:List Value},dr β w X b c->fH b a->dr β w X a c
  |_,_,_,[],[],[],_,_=>trivial
  |_,_,_,_::_,_::_,_::_,h,k=>⟨k.1 _ _ _ _ h.1,dr.le h.2 k.2⟩
  |_,_,_,[],_::_,_,_,k=>k.elim
  |_,_,_,_::_,[],_,_,k=>k.elim
  |_,_,_,[],[],_::_,h,_=>h.elim
  |_,_,_,_::_,_::_,[],h,_=>h.elim
theorem Rel.get{s:S}{a:Act}(h:Rel K β s a w)(x:Operand):bB β w (own K β s.H) (s.get x) (a.eval x):=by
  cases x with
  |tmp t=>exact h.dz t
  |const v=>exact zF _ _ _ v
  |func f=>exact .fn f [] #[] rfl (λi c u b _=>by simp at b)
  |global g=>exact .c' _
theorem Rel.oF{s:S}{a:Act}(h:Rel K β s a w): ∀b:List Operand,dr β w (own K β s.H) (b.map s.get) (b.map a.eval)
  | []=>trivial
  |x::b=>⟨h.get x,h.oF b⟩
def cw(P:Program)(H:Nat->Option E)(o:Oper)(a:List V)(v:V):Prop:=
  ∀(b:Map) (w:World) (X:Nat->Prop) (c:Operand->Value),(∀id e,H id=aa e->c4 b w X id e)->
    dr b w X a (o.op.operands.toList.map c)-> ∃u,(execOp c o).run P w= .ok (.value u) w/\bB b w X v u
def dX(K:Ctx)(o:Oper)(s h:S):Prop:=
  ∀i a w next Q,Rel K i s a w->(∀b c e,Rel K b h c e->next c e)->o.wp K.P a w next Q
def S.put(s:S)(d:Option Tmp)(v:V):S:=match d with
  |some d=>{s with t:=bb s.t d v}
  |none=>s
theorem Rel.put{s:S}{a:Act}(h:Rel K β s a w)(d:Option Tmp)(e: ∀i,d=aa i->dn i K.nt=ab){v:V}(k:bB β w (own K β s.H) v u):
    Rel K β (s.put d v) (a.put d u) w:=by
  cases d with
  |none=>exact h
  |some d=>
    have b:d<a.tmps.size:=by rw[h.nt];have:=e d rfl;simpa[Nat.blt_eq] using this
    refine {h with dz:= ?_,nt:= ?_}
    · intro i;simp only[Act.put,S.put];by_cases c:i=d
      · subst c;rw[cy];simp only[Array.getD_eq_getD_getElem?,Array.getElem?_setIfInBounds_self_of_lt b,Option.getD_some];exact k
      · rw[cu _ _ _ _ c];simp only[Array.getD_eq_getD_getElem?,Array.getElem?_setIfInBounds_ne (Ne.symm c)]
        have:=h.dz i;simpa only[Array.getD_eq_getD_getElem?] using this
    · simpa[Act.put] using h.nt
theorem Xq{o:Oper}{s:S}{vals:List V}{v:V}(l: ∀i,o.dst=aa i->dn i K.nt=ab)(m:fH (o.op.operands.toList.map s.get) vals)(h:cw K.P s.H o vals v):
    dX K o s (s.put o.dst v):=by
  intro c a w next Q k n
  obtain⟨u,b,p⟩:=h c w (own K c s.H) a.eval (λid e q=>(k.heap id e q).2) ((k.oF _).le m);unfold Oper.wp;rw[b];exact n c _ w (k.put o.dst l p)
section oa
variable {P:Program}{H:Nat->Option E}{d:Option Tmp}{ty:TypeId}{pos:String}{af:Array Edge}{g:Option (Nat×Bool)}
theorem aeM(x:Operand)(v:V):cw P H ⟨d,.move x,ty,pos,af,g⟩ [v] v:=by intro c w X a _ b;exact⟨a x,rfl,b.1⟩
theorem abO(x:Operand)(v:V):cw P H ⟨d,.assign x,ty,pos,af,g⟩ [v] v:=by intro c w X a _ b;exact⟨a x,rfl,b.1⟩
theorem nK{b:Bool}(h:bB G w X (.t (.bool b)) u):u= .bool b:=by cases h with|t _ _ h=>cases h with|bool=>rfl
theorem dO{k:IntKind}{n:Int}(h:bB G w X (.t (.int k n)) u):u= .int k n:=by cases h with|t _ _ h=>cases h with|int=>rfl
theorem hG{l:List UInt8}(h:bB G w X (.t (.str l)) u):u= .string ⟨l.toArray⟩:=by cases h with|t _ _ h=>cases h with|str=>rfl
theorem Xs(c x y:Operand)(v b:V):cw P H ⟨d,.pick c x y,ty,pos,af,g⟩ [.t (.bool ab),v,b] v:=by
  intro h w X e _ a;refine⟨e x,?_,a.2.1⟩
  have:=nK a.1;simp[execOp,this,asBool]
theorem W9(c x y:Operand)(v ea:V):cw P H ⟨d,.pick c x y,ty,pos,af,g⟩ [.t (.bool al),v,ea] ea:=by
  intro e w X b _ a;refine⟨b y,?_,a.2.2.1⟩
  have:=nK a.1;simp[execOp,this,asBool]
theorem af2(x y:Operand)(t b:TypeId)(k:IntKind)(m n:Int):cw P H ⟨d,.binOp .add t x y b,ty,pos,af,g⟩ [.t (.int k m),.t (.int k n)] (.t (.int k (k.wrap (m+n)))):=by intro c w X e _ a;refine⟨.int k (k.wrap (m+n)),?_,.t _ _ (.int _ _)⟩;simp[execOp,dO a.1,dO a.2.1,eqGuard,binOp,Op.intArith]
end oa
end
section
def cY(K:Ctx)(c:Code)(s:S)(Q:Exit->S->Prop):Prop:=
  ∀l a w d,Rel K l s a w->(∀e h b i k,Q e h->Rel K b h i k->d e i k)->c.wp K.P d a w
def qy(K:Ctx)(b:Array Oper)(l:List Oper)(s:S)(Q:S->Prop):Prop:=
  ∀k a w d,Rel K k s a w->(∀e c h i,Q e->Rel K c e h i->d .normal h i)->wpList K.P b d l a w
def qF(next:S->Prop)(Q:Exit->S->Prop):Exit->S->Prop
  | .normal,s=>next s
  |e,s=>Q e s
def yd(b:Nat)(Q:Exit->S->Prop):Exit->S->Prop
  | .exit a,s=>bif b8 a b then Q .normal s else Q (.exit a) s
  |e,s=>Q e s
def CK(a:S->Prop)(Q:Exit->S->Prop):Exit->S->Prop
  | .normal,s=>a s
  |e,s=>Q e s
variable {P:Program}{c x y:Code}{a:Act}{w:World}{b:Bool}{i t:Nat}{β:Map}{X:Nat->Prop}
theorem VA{R:Type}{Q:Exit->Act->World->Prop}(I:R->Act->World->Prop)(mj :R->Nat)(x:R)(G:I x a w)
    (p: ∀x a w,I x a w->c.wp P (Exit.then (λz w'=> ∃y,I y z w'/\ mj y< mj x) Q) a w):(Code.loop c).wp P Q a w:=by
  intro b k cs;have D: ∀n x a w,mj x=n->I x a w->
      ∃e z w',Q e z w'/\Arrives P (lone (b.at a (.code c:: .inLoop c::k)) cs w) b k cs e z w':=by
    intro n;induction n using Nat.strongRecOn with
    |_ n H=>
      intro x a w L W;obtain⟨e,h,i,o,d⟩:=p x a w W b (.inLoop c::k) cs;cases e with
      |normal=>
        obtain⟨y,q,F⟩:=o;obtain⟨A,B,C,r,m⟩:=H (mj y) (L▸F) y h i rfl q;exact⟨A,B,C,r,.of_steps (Steps.trans d (.one step_inLoop)) m⟩
      |exit id=>exact⟨_,h,i,o,.pass (x:= .inLoop c) rfl (λ_ _=> .inl bl) d⟩
      |goto l=>exact⟨_,h,i,o,.pass (x:= .inLoop c) rfl (λ_ _=> .inl bl) d⟩
      |ret=>exact⟨_,h,i,o,.pass (x:= .inLoop c) rfl (λ_ _=> .inl bl) d⟩
      |panic X=>exact⟨_,h,i,o,.pass (x:= .inLoop c) rfl (λ_ _=> .inl bl) d⟩
      |outgrown=>exact⟨_,h,i,o,.pass (x:= .inLoop c) rfl (λ_ _=> .inl bl) d⟩
  obtain⟨e,z,w',o,d⟩:=D _ x a w rfl G;exact⟨e,z,w',o,.of_steps (.one step_loop) d⟩
section rules
variable {K:Ctx}{s:S}{Q:Exit->S->Prop}
theorem xr{E:Exit->S->Prop}(h:cY K c s Q)(i: ∀e s,Q e s->E e s):cY K c s E:=
  λk a w l m n=>h k a w l m λe d b o p q r=>n e d b o p (i e d q) r
theorem wD{b:S}(i:s.le K b)(h:cY K c b Q):cY K c s Q:=
  λk a w l m n=>let ⟨d,e⟩:=i k a w m;h d a w l e n
theorem B4(h:cY K x s (qF (λm=>cY K y m Q) Q)):cY K (.seq x y) s Q:=by
  intro n a w o p d;refine wp_seq (h n a w _ p ?_);intro e z k q r i b;cases e with
  |normal=>exact i k q r o b d
  |exit id=>exact d _ _ _ _ _ i b
  |goto l=>exact d _ _ _ _ _ i b
  |ret=>exact d _ _ _ _ _ i b
  |panic c=>exact d _ _ _ _ _ i b
  |outgrown=>exact d _ _ _ _ _ i b
theorem abP(h:Q .normal s):cY K .skip s Q:=λb a w _ c d=>wp_skip (d _ _ b a w h c)
theorem adG(h:Q .ret s):cY K .ret s Q:=λb a w _ c d=>wp_ret (d _ _ b a w h c)
theorem abR(h:Q (.exit i) s):cY K (.exit i) s Q:=λb a w _ c d=>wp_exit (d _ _ b a w h c)
theorem j8{c:Operand}(l:s.get c= .t (.bool b))(m:b=ab->cY K x s Q)(n:b=al->cY K y s Q):cY K (.cond c x y) s Q:=by
  intro e a w i d k;have h:=d.get c;rw[l] at h;have bA:=nK h;cases b with
  |true=>exact wp_cond_true bA (m rfl e a w i d k)
  |false=>exact wp_cond_false bA (n rfl e a w i d k)
theorem aat(h:cY K c s (yd i Q)):cY K (.block i c) s Q:=by
  intro n a w r o m;refine wp_block (h n a w _ o ?_);intro e x p y z k b;cases e with
  |exit d=>
    by_cases hid:d=i
    · subst hid;simp only[yd,Exit.inBlock,if_true] at*;rw[show b8 d d=ab by simp,cond_true] at k;exact m _ _ _ _ _ k b
    · simp only[yd,Exit.inBlock] at*;rw[be hid];rw[show b8 d i=al from by cases q:b8 d i with
        |false=>rfl
        |true=>exact br (dc q) hid,cond_false] at k
      exact m _ _ _ _ _ k b
  |normal=>exact m _ _ _ _ _ k b
  |goto l=>exact m _ _ _ _ _ k b
  |ret=>exact m _ _ _ _ _ k b
  |panic c=>exact m _ _ _ _ _ k b
  |outgrown=>exact m _ _ _ _ _ k b
theorem abQ{ι:Type}(I:ι->S)(p:ι->Prop)(mj :ι->Nat)(x:ι)(H:p x)(L:s.le K (I x))
    (d: ∀x,p x->cY K c (I x) (CK (λG=> ∃y,p y/\ mj y< mj x/\G.le K (I y)) Q)):cY K (.loop c) s Q:=by
  intro R a w t W k;obtain⟨h,n⟩:=L R a w W;refine VA (λy X f=>p y/\ ∃h,Rel K h (I y) X f) mj x ⟨H,h,n⟩ ?_;intro y aP g ⟨o,q,r⟩;refine d y o q aP g _ r ?_;intro e G A a2 j i b;cases e with
  |normal=>
    obtain⟨z,B,C,m⟩:=i;obtain⟨D,F⟩:=m A a2 j b;exact⟨z,⟨B,D,F⟩,C⟩
  |exit id=>exact k _ _ _ _ _ i b
  |goto l=>exact k _ _ _ _ _ i b
  |ret=>exact k _ _ _ _ _ i b
  |panic c=>exact k _ _ _ _ _ i b
  |outgrown=>exact k _ _ _ _ _ i b
theorem abS{b:Array Oper}{Q:S->Prop}(h:Q s):qy K b [] s Q:=λc a w _ d e=>e s c a w h d
theorem Rel.bool(i:Rel K β s a w)(h:s.t t= .t (.bool b)):a.tmps[t]? =aa (.bool b):=by
  have d:=i.dz t;rw[h] at d;have c:=nK d;rw[rH] at c;cases e:a.tmps[t]? with
  |none=>rw[e] at c;simp[undef] at c
  |some x=>rw[e] at c;simp at c;rw[c]
theorem Oj{G:Map}:bB G w X (.bY []) undef:= .bY [] #[] rfl λi c u h _=>by simp at h
theorem Rel.ajv(e:Rel K β s a w){ops:Array Oper}{j:Nat}{want:Bool}(m:(ops[j]?).bind (·.dst)=aa t)(h:s.t t= .bY []):yielded ops a.tmps j≠aa want:=by
  have c:=e.dz t;rw[h] at c;have d:a.tmps.getD t undef= .tuple #[]:=by
    generalize a.tmps.getD t undef=y at c;cases c with
    |bY _ i k _=>
      have:i= #[]:=by simpa using k
      rw[this]
  have n: ∀b,a.tmps[t]? ≠aa (.bool b):=by
    intro b l;rw[rH,l] at d;simp at d
  unfold yielded
  grind
def fE:Map:=⟨λ_=>ak,λ_ _=>False⟩
theorem pO{b:Nat}(h:At fE i b):False:=by
  rcases h with ⟨_,h⟩|h
  · simp[fE] at h
  · exact h
def Fz(P:Program)(G:fh)(f:FuncId)(args:List V)(r:V):Prop:=
  ∀(w:World) (X:Nat->Prop) (a:List Value),G.ok w->(∀b,X b->b<w.heap.size)->dr fE w X args a->
    Calls P f a.toArray w λe c=> ∃u,e= .returned u/\Ext (λ_=>False) w c/\bB fE c X r u
theorem bB.any{X':Nat->Prop}{x:V}{v:Value}(h:bB fE w X x v)(a: ∀b,X' b->X b):bB β w X' x v:=
  h.mono (Ext.refl _ _) (λb _=>a b) (λ_ _ _ h=>by simp[fE] at h) (Shaped.refl _ _)
theorem dr.Ke: ∀{β:Map} {w:World} {X:Nat->Prop} {a:List V} {c:List Value},dr β w X a c->gI gG a=ab->dr fE w X a c
  |_,_,_,[],[],_,_=>trivial
  |_,_,_,_::_,_::_,h,b=>by
    simp[gI] at b;exact⟨h.1.under (u:=gG) (λ_ h=>h) (λ_ h=>by simp[gG] at h) b.1,dr.Ke h.2 b.2⟩
  |_,_,_,[],_::_,h,_=>h.elim
  |_,_,_,_::_,[],h,_=>h.elim
theorem Rel.grow{w':World}(h:Rel K β s a w)(e:Ext (λ_=>False) w w'):Rel K β s a w':=by
  have c:Ext (own K β s.H) w w':=e.weaken λ_ _ h=>h.elim;refine {h with ext:=h.ext.trans (e.weaken λ_ _ h=>h.elim),jL:=h.jL.ext h.ext.size e,fresh:= ?_,heap:= ?_,dz:= ?_}
  · intro id b d;exact⟨(h.fresh id b d).1,lu (h.fresh id b d).2 e.size⟩
  · intro id k l;obtain⟨m,n⟩:=h.heap id k l;exact⟨m,n.mono c (λ_ _ h=>h) (dT.refl _) (λ_ h=>h) (qU e) λb d=>e.keep b (h.fresh id b d).2 λh=>h⟩
  · intro i;exact(h.dz i).mono c (λ_ _ h=>h) (dT.refl _) (qU e)
theorem dX.call{o:Oper}{f:FuncId}{d:Func}{c:Array Operand}{k:Array TypeId}{vals:List V}{r:V}
    (A:o.op= .call {callee:= .value (.func f),args:=c,argTypes:=k}) (B:K.P.funcs[f]? =aa d) (C:(d.name== "runtime.NumGoroutine")=al) (q:d.body.isNone=al)
    (D: ∀i,o.dst=aa i->dn i K.nt=ab) (F:fH (c.toList.map s.get) vals) (L:gI gG vals=ab) (h:Fz K.P K.G f vals r):dX K o s (s.put o.dst r):=by
  intro x a w next Q m R
  have y:d.name≠ "runtime.NumGoroutine" :=by simpa using C
  have z:d.body≠ak:=by intro e;simp[e] at q
  have n:(execOp a.eval o).run K.P w= .ok (.enter f (c.map a.eval)) w:=by
    simp[execOp,A,resolve,Deferred.ofValue,Act.eval,invoke,callFunc,B,y,z]
  unfold Oper.wp;rw[n,Oper.upon_enter];have l:=(dr.le (m.oF c.toList) F).Ke L;have W: ∀b,own K x s.H b->b<w.heap.size:=by
    rintro b (X|⟨id,_,q⟩)
    · exact lu (m.kq b X).1 m.ext.size
    · exact(m.fresh id b q).2
  have bW:=h w (own K x s.H) _ m.Df W l;have g:(List.map a.eval c.toList).toArray=c.map a.eval:=by rw[<-w2]
  rw[g] at bW;refine bW.mono ?_;rintro e j ⟨u,rfl,p,t⟩;exact R x _ j ((m.grow p).put o.dst D (t.any λ_ h=>h))
def ux:List V->Nat->(Nat->V)
  | [],_=>pW
  |v::a,i=>bb (ux a (i+1)) i v
theorem H1{G:Map}{w:World}{X:Nat->Prop}: ∀(a:List V) (b:List Value) (i:Nat),dr G w X a b-> ∀j,bB G w X (ux a i (i+j)) (b.getD j undef)
  | [],_,_,_,_=> .c' _
  |v::a,u::b,i,h,0=>by
    rw[nV,ux,cy];exact h.1
  |v::a,u::b,i,h,j+1=>by
    rw[ux,cu _ _ _ _ O,show i+(j+1)=(i+1)+j by omega];simpa using H1 a b (i+1) h.2 j
  |_::_,[],_,h,_=>h.elim
theorem dr.length: ∀{β:Map} {w:World} {X:Nat->Prop} {vs:List V} {a:List Value},dr β w X vs a->a.length=vs.length
  |_,_,_,[],[],_=>rfl
  |_,_,_,_::_,_::_,h=>by simp[dr.length h.2]
  |_,_,_,[],_::_,h=>h.elim
  |_,_,_,_::_,[],h=>h.elim
def Ctx.pure(P:Program)(G:fh)(w:World)(X:Nat->Prop)(nt:Nat):Ctx:={P,G,w0:=w,X,ef:=0,hi:=fE,nt}
def start(args:List V):S:={t:=ux args 0,H:=mY,u:=gG}
theorem Rel.start{G:fh}{nt:Nat}{args:List V}{a:List Value}(e:G.ok w)(k: ∀b,X b->b<w.heap.size)(h:dr fE w X args a)(n:a.length<=nt):
    Rel (Ctx.pure P G w X nt) fE (Lift.start args) {tmps:=a.toArray++Array.replicate (nt-a.toArray.size) undef,defers:=[]} w:=by
  have d: ∀b,¬(Ctx.pure P G w X nt).M b:=by rintro b ⟨id,h,_⟩;simp[Ctx.pure] at h
  refine {ext:=Ext.refl _ _,qV:=e,ri:=λb h=>br h (d b),kq:=λb h=>⟨k b h,d b⟩,base:=ku.refl _ _ _,jL:=Shaped.refl _ _,low:=λ_ h=>br h (o6 _),dY:=λ_ _=>rfl,
           eB:=λ_ _ _ h=>h,vS:=λ_ _ _ h=>(pO h).elim,inj:=λ_ _ _ h=>(pO h).elim,fresh:=λ_ _ h=>(pO h).elim,heap:=λ_ _ h=>by simp[Lift.start,mY] at h,dz:= ?_,nt:= ?_,defers:=rfl}
  · intro i;have c:=H1 args a 0 h i;rw[dy] at c;have l:(a.toArray++Array.replicate (nt-a.toArray.size) undef).getD i undef=a.getD i undef:=by
      simp only[Array.getD_eq_getD_getElem?,List.getD_eq_getElem?_getD,Array.getElem?_append]
      grind
    simp only[l];refine c.mono (Ext.refl _ _) ?_ (dT.refl _) (Shaped.refl _ _);rintro b _ (m|⟨id,c,_⟩)
    · exact m
    · simp[Lift.start,mY] at c
  · simp[Ctx.pure];omega
end rules
end
set_option linter.unusedVariables false
set_option linter.unusedSimpArgs false
section
def cn(P:Program)(t:TypeId)(u:TypeDesc)(z:Value)(b a:Nat):Prop:=
 P.underlying t=aa u/\ ∃i,P.info? t=aa i/\i.zero=aa z/\i.size=b/\i.bytes=a
variable {n b i L gen k:Nat}{a:Act}{v:V}{G β:Map}{X:Nat->Prop}{q:Option Nat}
theorem cn.of{P:Program}{t:TypeId}{u:TypeDesc}{z:Value}{bytes:Nat}(h:P.underlying t=aa u)(a:(P.info? t).map (λi=>(i.zero,i.size,i.bytes))=aa (aa z,n,bytes)):cn P t u z n bytes:=by
 cases b:P.info? t with
 |none=>rw[b] at a;cases a
 |some i=>
  rw[b] at a;simp only[gP,Option.some.injEq,Prod.mk.injEq] at a;exact⟨h,i,b,a.1,a.2.1,a.2.2⟩
def kF:TypeDesc->Bool
 | .struct _=>ab
 | .array _ _=>ab
 |_=>al
section runs
variable {P:Program}{t:TypeId}{u:TypeDesc}{z:Value}{size bytes:Nat}(w:World)
theorem cn.D2(h:cn P t u z size bytes):(isAgg t).run P w= .ok (kF u) w:=by obtain⟨a,_⟩:=h;simp only[isAgg,e4,run_underlying a,eV];cases u<;>rfl
theorem cn.run_sizeOf(h:cn P t u z size bytes):(sizeOf t).run P w= .ok size w:=by obtain⟨_,i,a,c,b,e⟩:=h;simp[sizeOf,typeInfo,a,b]
theorem cn.rr(h:cn P t u z size bytes):(zeroValue t).run P w= .ok z w:=by obtain⟨_,i,a,b,c,e⟩:=h;simp[zeroValue,typeInfo,a,b]
theorem cn.D3(h:cn P t u z size bytes)(b:kF u=al){a:Addr}{v:Value}(c:w.cell? a=aa v):(loadVar t a).run P w= .ok v w:=by simp only[loadVar,e4,h.D2,eV,b];simp[c]
theorem jC(b o i:Nat):(⟨b,o,ak⟩:Addr).add i=⟨b,o+i,ak⟩:=by unfold Addr.add;split<;>simp_all
theorem cn.D4(h:cn P t u z size bytes)(a:kF u=ab){o:Nat}{f:Nat->Value}(c: ∀j,j<size->w.cell? ⟨b,o+j,ak⟩=aa (f j)):
  (loadVar t ⟨b,o,ak⟩).run P w= .ok (.agg ((List.range size).map f).toArray) w:=by simp only[loadVar,e4,h.D2,h.run_sizeOf,eV,a,if_true];rw[run_loadCells w ⟨b,o,ak⟩ size f λj e=>by rw[jC];exact c j e];rfl
end runs
section oa
variable {P:Program}{H:Nat->Option E}{d:Option Tmp}{ty:TypeId}{pos:String}{af:Array Edge}{g:Option (Nat×Bool)}
variable {t:TypeId}{u:TypeDesc}{z:Value}{size bytes:Nat}
theorem r1{w:World}{u:Value}(h:bB G w X (.ref n i) u): ∃b,G n=aa (aa b,0)/\u= .pointer (aa ⟨b,i,ak⟩):=by cases h with|ref _ _ b a=>exact⟨b,a,rfl⟩
theorem pR{w:World}{u:Value}(h:bB G w X (.cQ L gen n i k) u)(a:G L=aa (q,gen)): ∃b,q=aa b/\u= .pointer (aa ⟨b,i*n+k,ak⟩):=by
 cases h with
 |cQ _ _ _ _ _ b e c=>rw[c] at a;cases a;exact⟨b,rfl,rfl⟩
 |k' _ _ _ _ _ _ l g m c e=>rw[c] at a;cases a;omega
theorem l3{w:World}{c:TypeId}{a:List (List T)}(h:c4 G w X n (.arr c gen i a)): ∃q,G n=aa (q,gen):=by
 rcases h.2 with ⟨e,_⟩|⟨b,k,e,_⟩
 ·exact⟨_,e⟩
 exact⟨_,e⟩
theorem Ii{w:World}{a:List T}{u:Value}(h:bB G w X (.aU a) u): ∃(b c:Nat) (f:Nat->Value),u= .pointer (aa ⟨b,c,ak⟩)/\b<w.heap.size/\ ¬X b/\
  (∀j,j<a.length->w.cell? ⟨b,c+j,ak⟩=aa (f j))/\ ∀(j:Nat) (x:T),a[j]? =aa x->c8 w X x (f j):=by cases h with|aU _ b c f e i k l=>exact⟨b,c,f,rfl,e,i,k,l⟩
theorem adD(x:Operand)(i a:Nat)(k:List V)(c:V)(p:cn P t u z size bytes)(q:kF u=al)(r:H i=aa (.cells k))(m:k[a]? =aa c):
  cw P H ⟨d,.load t x,ty,pos,af,g⟩ [.ref i a] c:=by
 intro L w X Q y A;obtain⟨b,B,C⟩:=r1 A.1;obtain⟨R,l,D,n,F,o,G⟩:=y i _ r;rw[B] at n;cases n;have h:a<k.length:=(d0.1 m).1;have e:w.cell? ⟨b,a,ak⟩=aa l[a]:=by simp[World.cell?,F,o,h]
 refine⟨l[a],?_,G a c l[a] m (by simp[o,h])⟩;simp[execOp,C,Instr.loadAt,Instr.sureAddr,p.D3 w q e]
theorem adC(x:Operand)(k a:Nat)(h:List V)(n:cn P t u z size bytes)(o:kF u=ab)(p:H k=aa (.cells h))(q:dA (a+size) h.length=ab):
  cw P H ⟨d,.load t x,ty,pos,af,g⟩ [.ref k a] (.agg ((h.drop a).take size)):=by
 intro L w X Q r y;obtain⟨b,A,B⟩:=r1 y.1;obtain⟨R,l,C,m,D,W,f⟩:=r k _ p;rw[A] at m;cases m;have F:a+size<=h.length:=fb q;have e: ∀j,j<size->w.cell? ⟨b,a+j,ak⟩=aa (l.getD (a+j) undef):=λj I=>by
  have:a+j<l.size:=O
  simp[World.cell?,D,this]
 refine⟨_,by simp[execOp,B,Instr.loadAt,Instr.sureAddr,n.D4 w o e];rfl,?_⟩;refine .agg _ _ ca (λi c v G M=>?_)
 grind
theorem Ze(x:Operand)(c:T)(r:List T)(a:cn P t u z size bytes)(e:kF u=al):cw P H ⟨d,.load t x,ty,pos,af,g⟩ [.aU (c::r)] (.t c):=by intro o w X p q h;obtain⟨b,i,f,k,y,A,l,m⟩:=Ii h.1;have n:=l 0 bl;refine⟨f 0,?_,.t _ _ (m 0 c bl)⟩;simp only[execOp,k,Instr.loadAt,Instr.sureAddr,e4,hh,eV];rw[a.D3 w e (v:=f 0) (by simpa using n)];rfl
theorem Zd(x:Operand)(h:List T)(n:cn P t u z size bytes)(o:kF u=ab)(B:size<=h.length):
  cw P H ⟨d,.load t x,ty,pos,af,g⟩ [.aU h] (.agg ((h.take size).map .t)):=by
 intro C w X D F p;obtain⟨b,q,f,r,G,L,k,y⟩:=Ii p.1;refine⟨.agg ((List.range size).map f).toArray,?_,.agg _ _ ca λi c v a l=>?_⟩
 ·simp only[execOp,r,Instr.loadAt,Instr.sureAddr,e4,hh,eV];rw[n.D4 w o (f:=f) λj Q=>k j O];rfl
 have m:i<size:=by
  have:=(d0.1 a).1;simp at this;omega
 rw[eG,List.getElem?_take_of_lt m] at a;simp only[List.getElem?_toArray,List.getElem?_map,List.getElem?_range m,gP,Option.some.injEq] at l;cases e:h[i]? with
 |none=>rw[e] at a;simp at a
 |some A=>rw[e] at a;simp at a;rw[<-a,<-l];exact .t _ _ (y i A e)
theorem Xa(x:Operand)(m gen i a:Nat)(o:TypeId)(sz:Nat)(e:List (List T))(h:List T)(c:T)(F:cn P t u z size bytes)(G:kF u=al)(B:H m=aa (.arr o gen sz e))(n:e[i]? =aa h)(L:h[a]? =aa c):
  cw P H ⟨d,.load t x,ty,pos,af,g⟩ [.cQ m gen sz i a] (.t c):=by
 intro j w X v C Q;obtain⟨q,D⟩:=l3 (C m _ B);obtain⟨b,p,R⟩:=pR Q.1 D;subst p;have bA:=D;rcases(C m _ B).2 with ⟨r,y⟩|⟨I,A,r,y,M,N,W⟩
 ·rw[y] at n;simp at n
 rw[bA] at r;cases r;have f:i<e.length:=(d0.1 n).1;have U:a<sz:=by
  grind
 have l:i*sz+a<A.size:=by
  have:(i+1)*sz<=e.length*sz:=dQ _ f
  grind
 have k:w.cell? ⟨b,i*sz+a,ak⟩=aa A[i*sz+a]:=by simp[World.cell?,y,l]
 refine⟨A[i*sz+a],?_,.t _ _ (W i a h c _ n L (by simp[l]))⟩;simp[execOp,R,Instr.loadAt,Instr.sureAddr,F.D3 w G k]
theorem Xx(x:Operand)(o c k a:Nat)(p:Array Field)(e:Field)(q:TypeDesc)(r:Value)(h l:Nat)(y:P.underlying t=aa (.struct p))(A:p[k]? =aa e)(B:e.offset=a)(m:cn P e.type q r h l)(n:(h==0)=al):
  cw P H ⟨d,.fieldAddr t x k,ty,pos,af,g⟩ [.ref o c] (.ref o (c+a)):=by
 intro G w X L Q C;obtain⟨b,D,F⟩:=r1 C.1;have i:h≠0:=by simpa using n
 refine⟨.pointer (aa ⟨b,c+a,ak⟩),?_,.ref _ _ _ D⟩;simp[execOp,F,Instr.fieldAt,run_underlying y,A,Instr.sureAddr,fieldPlace,m.run_sizeOf,i,jC,B]
theorem Zh(x:Operand)(r:List T)(k a:Nat)(y:Array Field)(e:Field)(A:TypeDesc)(B:Value)(i n:Nat)(C:P.underlying t=aa (.struct y))(D:y[k]? =aa e)(F:e.offset=a)(o:cn P e.type A B i n)(p:(i==0)=al):
  cw P H ⟨d,.fieldAddr t x k,ty,pos,af,g⟩ [.aU r] (.aU (r.drop a)):=by
 intro I w X M N G;have l:i≠0:=by simpa using p
 obtain⟨b,m,f,L,Q,R,q,W⟩:=Ii G.1;refine⟨.pointer (aa ⟨b,m+a,ak⟩),?_,.aU _ b (m+a) (λj=>f (a+j)) Q R (λj v=>?_) λj c h=>?_⟩
 ·simp[execOp,L,Instr.fieldAt,run_underlying C,D,Instr.sureAddr,fieldPlace,o.run_sizeOf,l,jC,F]
 ·rw[nU];exact q (a+j) (by simp at v;omega)
 exact W (a+j) c (by simpa using h)
theorem Xc(x:Operand)(l gen o i c k a:Nat)(C:Array Field)(e:Field)(L:TypeDesc)(Q:Value)(h p:Nat)(R:P.underlying t=aa (.struct C))(W:C[k]? =aa e)(f:e.offset=a)(r:cn P e.type L Q h p)(y:(h==0)=al)
  (A:TypeId) (m:List (List T)) (D:H l=aa (.arr A gen o m)):cw P H ⟨d,.fieldAddr t x k,ty,pos,af,g⟩ [.cQ l gen o i c] (.cQ l gen o i (c+a)):=by
 intro I w X M F j;obtain⟨q,G⟩:=l3 (F l _ D);obtain⟨b,B,v⟩:=pR j.1 G;subst B;have bA:=G;have n:h≠0:=by simpa using y
 refine⟨.pointer (aa ⟨b,i*o+(c+a),ak⟩),?_,.cQ _ _ _ _ _ _ (F l _ D).1 bA⟩;simp[execOp,v,Instr.fieldAt,run_underlying R,W,Instr.sureAddr,fieldPlace,r.run_sizeOf,n,jC,f,Nat.add_assoc]
theorem Zg(x y:Operand)(e:TypeId)(k:List (List T))(l:List T)(n:Nat)(C:P.underlying t=aa (.slice e))(D:cn P e u z size bytes)(o:k[n]? =aa l)(F:l.length=size):
  cw P H ⟨d,.indexAddr t x y,ty,pos,af,g⟩ [.t (.bG k),.t (.int .i64 (n:Nat))] (.aU l):=by
 intro N w X G U A;have cR:=dO A.2.1;have L:n<k.length:=(d0.1 o).1;cases A.1 with
 |t _ _ h=>
  generalize Q:G x=v at h;cases h with
  |gh a p=>simp at o
  |bG _ b m i p f R W B q I r=>
   have M:i=size:=by rw[<-F];exact(q l (bX o)).symm
   subst M;refine⟨.pointer (aa ⟨b,m+n*i,ak⟩),?_,.aU _ b (m+n*i) (λj=>f n j) R W (λj V=>I n j L O) λj c h=>r n j l c o h⟩;simp[execOp,Q,cR,Instr.indexAt,asIntOf,run_underlying C,D.run_sizeOf,jC];intro h;omega
theorem ff{w:World}{m:Nat}{u:Value}(h:bB G w X (.bf m gen i k L) u)(c:G m=aa (q,gen)):
  (∃a b n ty,u= .slice (aa ⟨b,k*i,ak⟩) L a/\q=aa b/\b<w.heap.size/\w.shape? b=aa (ty,n)/\(k+a)*i=n/\L<=a/\a<=maxLen)\/
  (q=ak/\k=0/\L=0/\u= .slice ak 0 0):=by
 cases h with
 |bf _ _ _ _ _ a b n ty l e o p r x y=>rw[e] at c;cases c;exact .inl ⟨a,b,n,ty,rfl,rfl,o,p,r,x,y⟩
 |hq _ _ _ l e=>rw[e] at c;cases c;exact .inr ⟨rfl,rfl,rfl,rfl⟩
 |kd _ _ _ _ _ _ A g B e l=>rw[e] at c;cases c;omega
theorem Xv(x y:Operand)(e:TypeId)(c gen a h n:Nat)(l:TypeId)(i:List (List T))(r:H c=aa (.arr l gen size i))(D:P.underlying t=aa (.slice e))(F:cn P e u z size bytes)(W:n<h):
  cw P H ⟨d,.indexAddr t x y,ty,pos,af,g⟩ [.bf c gen size a h,.t (.int .i64 (n:Nat))] (.cQ c gen size (a+n) 0):=by
 intro f w X G A o;have cR:=dO o.2.1;generalize B:G x=v at o;have k:=o.1;simp only[B] at k;obtain⟨q,C⟩:=l3 (A c _ r);rcases ff k C with ⟨L,b,m,Q,rfl,p,j,I,R,M,N⟩|⟨_,_,U,_⟩
 ·subst p;refine⟨.pointer (aa ⟨b,(a+n)*size+0,ak⟩),?_,.cQ _ _ _ _ _ b (A c _ r).1 C⟩;simp[execOp,B,cR,Instr.indexAt,asIntOf,run_underlying D,F.run_sizeOf,jC,Nat.add_mul]
  grind
 omega
end oa
def V.one:V->Bool
 | .t _=>ab
 | .ref _ _=>ab
 | .aU _=>ab
 | .bf _ _ _ _ _=>ab
 | .cQ _ _ _ _ _=>ab
 | .fn _ _=>ab
 | .agg _=>al
 | .bY _=>al
 | .c'=>al
def nS:List V->Bool
 | []=>ab
 |v::a=>v.one&&nS a
theorem F1: ∀{b:List V} {i:Nat} {v:V},nS b=ab->b[i]? =aa v->v.one=ab
 |v::b,0,_,h,a=>by simp at a;subst a;simp[nS] at h;exact h.1
 |v::b,i+1,_,h,a=>by simp at a;simp[nS] at h;exact F1 h.2 a
 | [],_,_,_,a=>by simp at a
def V.cs:V->List V
 | .agg cs=>cs
 |v=>[v]
def V.val:V->Bool
 | .agg _=>ab
 |v=>v.one
theorem bB.hP{w:World}{u:Value}(h:bB β w X v u)(a:v.one=ab):u.oneCell'=ab:=by
 cases h with
 |t x v h=>cases h<;>rfl
 |agg=>cases a
 |bY=>cases a
 |ref=>rfl
 |aU=>rfl
 |bf=>rfl
 |hq=>rfl
 |kd=>assumption
 |cQ=>rfl
 |k'=>assumption
 |fn=>rfl
 |c'=>cases a
theorem wW{u:Value}(h:u.oneCell'=ab):u.cells= #[u]:=by cases u<;>first|rfl|cases h
theorem bB.cells{w:World}{u:Value}(h:bB β w X v u)(m:v.val=ab):
  u.cells.size=v.cs.length/\ ∀(i:Nat) c x,v.cs[i]? =aa c->u.cells[i]? =aa x->bB β w X c x:=by
 cases v with
 |agg cs=>
  cases h with|agg _ us o h=>exact⟨o,h⟩
 |bY=>cases m
 |c'=>cases m
 |t x=>
  have:=wW (h.hP rfl);rw[this];exact⟨rfl,λi c y k l=>by cases i with|zero=>simp[V.cs] at k l;subst k;subst l;exact h|succ n=>simp[V.cs] at k⟩
 |ref a b=>
  have:=wW (h.hP rfl);rw[this];exact⟨rfl,λi c y k l=>by cases i with|zero=>simp[V.cs] at k l;subst k;subst l;exact h|succ n=>simp[V.cs] at k⟩
 |aU a=>
  have:=wW (h.hP rfl);rw[this];exact⟨rfl,λi c y k l=>by cases i with|zero=>simp[V.cs] at k l;subst k;subst l;exact h|succ n=>simp[V.cs] at k⟩
 |bf a b c d e=>
  have:=wW (h.hP rfl);rw[this];exact⟨rfl,λi c y k l=>by cases i with|zero=>simp[V.cs] at k l;subst k;subst l;exact h|succ n=>simp[V.cs] at k⟩
 |cQ a b c d e=>
  have:=wW (h.hP rfl);rw[this];exact⟨rfl,λi c y k l=>by cases i with|zero=>simp[V.cs] at k l;subst k;subst l;exact h|succ n=>simp[V.cs] at k⟩
 |fn a b=>
  have:=wW (h.hP rfl);rw[this];exact⟨rfl,λi c y k l=>by cases i with|zero=>simp[V.cs] at k l;subst k;subst l;exact h|succ n=>simp[V.cs] at k⟩
def S.new(s:S)(k:Nat)(e:E):S:={t:=s.t,H:=bb s.H k (aa e),u:=bb s.u k ab}
theorem Rel.Kd{K:Ctx}{s:S}{w:World}(h:Rel K β s a w)(k y:Nat)(R:s.u k=al)(W:Array Value)(f:TypeId)(e:E)
  (U: ∀(p:Map) (N:Nat->Prop) (j:World),j=w.alloc (.cells W f)->p k=aa (aa w.heap.size,y)->(∀v u,bB β w (own K β s.H) v u->bB p j N v u)->(∀b,¬p.n k b)->c4 p j N k e):
  Rel K (β.put k (aa (aa w.heap.size,y))) (s.new k e) a (w.alloc (.cells W f)):=by
 have l: ∀X,Ext X w (w.alloc (.cells W f)):=λX=>Ext.alloc X w _;have A:β k=ak:=h.dY _ R;have q: ∀id x,β id=aa x->β.put k (aa (aa w.heap.size,y)) id=aa x:=λid x F=>by
  rw[fw _ _ _ _ (by intro e;subst e;rw[A] at F;cases F)];exact F
 have G:=dT.of q;have m: ∀id b,At (β.put k (aa (aa w.heap.size,y))) id b->(id=k/\b=w.heap.size)\/(id≠k/\At β id b):=λid b bA=>by
  by_cases B:id=k
  ·subst B;rcases bA with ⟨g,bA⟩|bA
   ·rw[f5] at bA;cases bA;exact .inl ⟨rfl,rfl⟩
   exact br bA (h.eB _ _ R)
  refine .inr ⟨B,?_⟩;rcases bA with ⟨g,bA⟩|bA
  ·rw[fw _ _ _ _ B] at bA;exact .inl ⟨g,bA⟩
  exact .inr bA
 have r: ∀b,b<w.heap.size->own K (β.put k (aa (aa w.heap.size,y))) (bb s.H k (aa e)) b->own K β s.H b:=by
  rintro b V (F|⟨id,D,L⟩)
  ·exact .inl F
  rcases m id b L with ⟨rfl,rfl⟩|⟨I,C⟩
  ·omega
  rw[cu _ _ _ _ I] at D;exact .inr ⟨id,D,C⟩
 have Q: ∀v u,bB β w (own K β s.H) v u->bB (β.put k (aa (aa w.heap.size,y))) (w.alloc (.cells W f)) (own K (β.put k (aa (aa w.heap.size,y))) (bb s.H k (aa e))) v u:=
  λv u Y=>Y.mono (l _) r G (qU (l _))
 refine {ext:=h.ext.trans ((l λ_=>False).weaken λ_ _ h=>h.elim),qV:=h.qV,ri:=h.ri,kq:=h.kq,vS:=h.vS,base:= ?_,jL:=h.jL.ext h.ext.size (l _),low:= ?_,dY:= ?_,eB:= ?_,inj:= ?_,fresh:= ?_,heap:= ?_,dz:=λi=>Q _ _ (h.dz i),nt:=h.nt,defers:=h.defers}
 ·refine h.base.keep λid hid=>?_
  have:=h.low id hid;rw[fw _ _ _ _ (by intro e;subst e;rw[R] at this;cases this)]
 ·intro id hid;show bb s.u k ab id=ab;by_cases e:id=k
  ·subst e;exact cy _ _ _
  rw[cu _ _ _ _ e];exact h.low id hid
 ·intro id hid;have c:bb s.u k ab id=al:=hid;by_cases e:id=k
  ·subst e;rw[cy] at c;cases c
  rw[cu _ _ _ _ e] at c;rw[fw _ _ _ _ e];exact h.dY id c
 ·intro id b hid;have c:bb s.u k ab id=al:=hid;by_cases e:id=k
  ·subst e;rw[cy] at c;cases c
  rw[cu _ _ _ _ e] at c;exact h.eB id b c
 ·intro id M b D L;rcases m id b D with ⟨rfl,rfl⟩|⟨_,C⟩<;>rcases m M _ L with ⟨rfl,e⟩|⟨_,T⟩
  ·rfl
  ·have:=(h.fresh _ _ T).2;omega
  ·subst e;have:=(h.fresh _ _ C).2;omega
  exact h.inj _ _ _ C T
 ·intro id b bA;rcases m id b bA with ⟨rfl,rfl⟩|⟨_,C⟩
  ·exact⟨.inr h.ext.size,bl⟩
  exact⟨(h.fresh _ _ C).1,by have:=(h.fresh _ _ C).2;simp;omega⟩
 intro id e' o;have o:bb s.H k (aa e) id=aa e':=o;show bb s.u k ab id=ab/\c4 _ _ (own K _ (bb s.H k (aa e))) id e';by_cases B:id=k
 ·subst B;rw[cy] at o;cases o;exact⟨cy _ _ _,U _ _ _ rfl (f5 _ _ _) Q λb=>h.eB _ b R⟩
 rw[cu _ _ _ _ B] at o;obtain⟨D,L⟩:=h.heap id e' o;exact⟨by rw[cu _ _ _ _ B];exact D,L.mono (l _) r G (q id) (qU (l _)) λb bA=>AA _ _ _ (h.fresh id b bA).2⟩
theorem Rel.new{K:Ctx}{s:S}{w:World}(h:Rel K β s a w)(k l:Nat)(o:s.u k=al)(m:Array Value)(n:TypeId)(e:E)
  (p: ∀(b:Map) (i:Nat->Prop) (c:World),c=w.alloc (.cells m n)->b k=aa (aa w.heap.size,l)->(∀v u,bB β w (own K β s.H) v u->bB b c i v u)->c4 b c i k e):
  Rel K (β.put k (aa (aa w.heap.size,l))) (s.new k e) a (w.alloc (.cells m n)):=
 h.Kd k l o m n e λb i c q r x _=>p b i c q r x
theorem Rel.DK{K:Ctx}{s:S}{w:World}(h:Rel K β s a w)(k:Nat)(n:s.u k=al)(b:Array Value)(e:TypeId)(l:List V)(o:b.size=l.length)
  (p: ∀(i:Nat) c u,l[i]? =aa c->b[i]? =aa u->bB β w (own K β s.H) c u):
  Rel K (β.put k (aa (aa w.heap.size,0))) (s.new k (.cells l)) a (w.alloc (.cells b e)):=
 h.new k 0 n b e _ λq B C r x m=>⟨w.heap.size,b,e,x,by subst r;exact j2 _ _,o,λi c u y A=>m _ _ (p i c u y A)⟩
section ops
variable {K:Ctx}{s:S}{d:Option Tmp}{ty:TypeId}{pos:String}{af:Array Edge}{g:Option (Nat×Bool)}
variable {t:TypeId}{u:TypeDesc}{z:Value}{size bytes:Nat}
theorem afs(k:Nat)(c:s.u k=al)(x:Operand)(v:V)(h: ∀i,d=aa i->dn i K.nt=ab)(l:s.get x=v)(m:v.val=ab):
  dX K ⟨d,.box t x,ty,pos,af,g⟩ s ((s.new k (.cells v.cs)).put d (.ref k 0)):=by
 intro q a w next Q e n
 subst l;obtain⟨o,p⟩:=(e.get x).cells m;unfold Oper.wp;have b:(execOp a.eval ⟨d,.box t x,ty,pos,af,g⟩).run K.P w= .ok (.value (.pointer (aa ⟨w.heap.size,0,ak⟩))) (w.alloc (.cells (a.eval x).cells t)):=by
  simp[execOp,Instr.box,newVar,newRow]
 rw[b];exact n _ _ _ ((e.DK k c _ t _ o p).put d h (.ref _ _ _ (cy _ _ _)))
theorem aer(k:Nat)(c:s.u k=al)(h: ∀i,d=aa i->dn i K.nt=ab)(l:cn K.P t u z size bytes)(m:(d7 z).val=ab):
  dX K ⟨d,.alloc t,ty,pos,af,g⟩ s ((s.new k (.cells (d7 z).cs)).put d (.ref k 0)):=by
 intro e a w next Q n o
 obtain⟨p,q⟩:=(zF e w (own K e s.H) z).cells m;unfold Oper.wp;have b:(execOp a.eval ⟨d,.alloc t,ty,pos,af,g⟩).run K.P w= .ok (.value (.pointer (aa ⟨w.heap.size,0,ak⟩))) (w.alloc (.cells z.cells t)):=by
  simp[execOp,Instr.alloc,l.rr,newVar,newRow]
 rw[b];exact o _ _ _ ((n.DK k c _ t _ p q).put d h (.ref _ _ _ (cy _ _ _)))
def nb(b:List V)(a:Nat)(c:List V):List V:=b.take a++c++b.drop (a+c.length)
theorem FG{w:World}{a c:Array Value}{e:TypeId}(l:w.heap[b]? =aa (.cells a e (0,0)))(i:c.size=a.size)(k:Nat):(w.setRow b c).shape? k=w.shape? k:=by
 by_cases h:k=b
 ·subst h;unfold iZ;rw[setRow_heap _ _ _ _ _ _ l,l];simp[i]
 exact td (setRow_other _ _ _ _ h)
theorem Rel.setRow{K:Ctx}{s:S}{w:World}(h:Rel K β s a w)(m b:Nat)(L:At β m b)(y:Array Value)(I:TypeId)(Q:w.heap[b]? =aa (.cells y I (0,0)))(q:Array Value)(A:q.size=y.size)(e:E)(R:s.H m≠ak)
  (N:c4 β (w.setRow b q) (own K β s.H) m e):Rel K β {s with H:=bb s.H m (aa e)} a (w.setRow b q):=by
 have r:own K β s.H b:= .inr ⟨m,R,L⟩;have p:Ext (own K β s.H) w (w.setRow b q):=⟨rfl,rfl,rfl,bl,λk _ D=>setRow_other _ _ _ _ λe=>D (e▸r)⟩
 have B:Shaped β w (w.setRow b q):=by
  intro l _;by_cases C:l=b
  ·subst C;unfold iZ;rw[setRow_heap _ _ _ _ _ _ Q,Q];simp[A]
  exact td (setRow_other _ _ _ _ C)
 have o: ∀l,own K β (bb s.H m (aa e)) l->own K β s.H l:=by
  rintro l (D|⟨c,F,G⟩)
  ·exact .inl D
  by_cases x:c=m
  ·subst x;exact .inr ⟨c,R,G⟩
  rw[cu _ _ _ _ x] at F;exact .inr ⟨c,F,G⟩
 have W: ∀v u,bB β w (own K β s.H) v u->bB β (w.setRow b q) (own K β (bb s.H m (aa e))) v u:=λv u T=>T.mono p (λl _=>o l) (dT.refl _) B;have Y:K.M b\/K.w0.heap.size<=b:=(h.fresh m b L).1;refine {h with ext:=h.ext.trans' ⟨rfl,rfl,rfl,bl,λk hk D=>setRow_other _ _ _ _ ?_⟩,jL:=λl U=>(FG Q A l).trans (h.jL l U),fresh:= ?_,heap:= ?_,dz:=λi=>W _ _ (h.dz i)}
 ·intro e
  grind
 ·intro c l f;exact⟨(h.fresh c l f).1,by have:=(h.fresh c l f).2;simpa using this⟩
 intro c e' n;have n:bb s.H m (aa e) c=aa e':=n;show s.u c=ab/\c4 β (w.setRow b q) (own K β (bb s.H m (aa e))) c e';by_cases x:c=m
 ·subst x;rw[cy] at n;cases n;cases j:s.H c with
  |none=>exact br j R
  |some V=>
   exact⟨(h.heap c V j).1,N.mono (Ext.refl _ _) (λl _=>o l) (dT.refl _) (λ_ h=>h) (Shaped.refl _ _) λ_ _=>rfl⟩
 rw[cu _ _ _ _ x] at n;obtain⟨F,G⟩:=h.heap c e' n;exact⟨F,G.mono p (λl _=>o l) (dT.refl _) (λ_ h=>h) B λl X=>setRow_other _ _ _ _ λe=>x (h.inj c m l X (e▸L))⟩
theorem Mi(b e:List V)(a:Nat)(h:a+e.length<=b.length)(k l:List Value)(o:k.length=b.length)(p:l.length=e.length){R:V->Value->Prop}
  (q: ∀(i:Nat) c u,b[i]? =aa c->k[i]? =aa u->R c u) (r: ∀(i:Nat) c u,e[i]? =aa c->l[i]? =aa u->R c u):
  ∀(i:Nat) c u,(nb b a e)[i]? =aa c->(k.take a++l++k.drop (a+l.length))[i]? =aa u->R c u:=by
 intro i c u n m;simp only[nb,List.getElem?_append,iI,mi,List.getElem?_take,List.getElem?_drop] at n m
 grind
theorem E4{P:Program}(h:cn P t u z size bytes)(w:World)(b o:Nat)(a:Array Value)(c:TypeId)(v:Value)(i:w.heap[b]? =aa (.cells a c (0,0)))
  (e:v.cells.size=size) (l:o+size<=a.size) (k: ∀x∈v.cells.toList,x.oneCell'=ab):
  (storeVar t ⟨b,o,ak⟩ v).run P w= .ok () (w.setRow b (a.toList.take o++v.cells.toList++a.toList.drop (o+v.cells.toList.length)).toArray):=by
 have:=run_storeCells_at P b o c v.cells.toList 0 a w i (by simp[e];omega) k;simp only[storeVar,e4,h.run_sizeOf,eV,e,ne_eq,not_true,if_false]
 grind
theorem aep(x y:Operand)(r l:Nat)(A:List V)(v:V)(j:s.get x= .ref r l)(hy:s.get y=v)(I:s.H r=aa (.cells A))(fo:cn K.P t u z size bytes)
  (M:v.val=ab) (ep:nS v.cs=ab) (hs:b8 v.cs.length size=ab) (hl:dA (l+size) A.length=ab):
  dX K ⟨ak,.store t x y,ty,pos,af,g⟩ s {s with H:=bb s.H r (aa (.cells (nb A l v.cs)))}:=by
 intro B a w next Q X hk
 subst hy;have C:=X.get x;rw[j] at C;obtain⟨b,f,N⟩:=r1 C;obtain⟨h7,m,o,h1,D,h3,h4⟩:=(X.heap r _ I).2;rw[f] at h1;cases h1;obtain⟨T,c2⟩:=(X.get y).cells M;have U:(a.eval y).cells.size=size:=by rw[T];exact dc hs
 have hle:l+size<=A.length:=fb hl;have F: ∀e∈(a.eval y).cells.toList,e.oneCell'=ab:=by
  intro e he;obtain⟨i,aL⟩:=jq.1 he;have G:(a.eval y).cells[i]? =aa e:=by simpa using aL
  have L:i<(s.get y).cs.length:=by rw[<-T];exact(iD.1 G).1
  exact(c2 i _ e (bC L) G).hP (F1 ep (bC L))
 unfold Oper.wp;have R:=E4 fo w b l m o (a.eval y) D U O F;have p:(execOp a.eval ⟨ak,.store t x y,ty,pos,af,g⟩).run K.P w= .ok .skip (w.setRow b (m.toList.take l++(a.eval y).cells.toList++m.toList.drop (l+(a.eval y).cells.toList.length)).toArray):=by
  simp only[execOp,N,Instr.storeAt,Instr.sureAddr,e4,hh,eV,R]
 rw[p];have n:(m.toList.take l++(a.eval y).cells.toList++m.toList.drop (l+(a.eval y).cells.toList.length)).length=m.size:=by
  grind
 refine hk B _ _ (Rel.setRow X r b (.inl ⟨_,f⟩) m o D _ (by simpa using n) (.cells (nb A l (s.get y).cs)) (by rw[I];simp) ?_);refine⟨b,_,o,f,setRow_heap _ _ _ _ _ _ D,?_,?_⟩
 ·simp only[List.size_toArray,n,h3];simp[nb]
  grind
 intro i c e bW he;have Y:own K B s.H b:= .inr ⟨r,by rw[I];simp,.inl ⟨_,f⟩⟩;have q: ∀v u,bB B w (own K B s.H) v u->bB B (w.setRow b (m.toList.take l++(a.eval y).cells.toList++m.toList.drop (l+(a.eval y).cells.toList.length)).toArray) (own K B s.H) v u:=by
  intro v u M;refine M.mono ⟨rfl,rfl,rfl,bl,λk _ j=>setRow_other _ _ _ _ λe=>j (e▸Y)⟩ (λ_ _ h=>h) (dT.refl _) ?_;intro h7 _;by_cases W:h7=b
  ·subst W;unfold iZ;rw[setRow_heap _ _ _ _ _ _ D,D]
   grind
  exact td (setRow_other _ _ _ _ W)
 refine q _ _ (Mi A (s.get y).cs l (by have:=dc hs;omega) m.toList (a.eval y).cells.toList (by simpa using h3) (by simpa using T) (λi c u h5 h6=>h4 i c u h5 (by simpa using h6)) (λi c u h5 h6=>c2 i c u h5 (by simpa using h6)) i c e bW ?_)
 grind
end ops
end
section oa
variable {P:Program}{H:Nat->Option E}{d:Option Tmp}{ty:TypeId}{pos:String}{af:Array Edge}{g:Option (Nat×Bool)}
variable {t:TypeId}{u:TypeDesc}{z:Value}{size bytes:Nat}
theorem afN(x y:Operand)(t b:TypeId)(k:IntKind)(m n:Int):cw P H ⟨d,.binOp .sub t x y b,ty,pos,af,g⟩ [.t (.int k m),.t (.int k n)] (.t (.int k (k.wrap (m-n)))):=by intro c w X e _ a;refine⟨.int k (k.wrap (m-n)),?_,.t _ _ (.int _ _)⟩;simp[execOp,dO a.1,dO a.2.1,eqGuard,binOp,Op.intArith]
theorem afT(x y:Operand)(t b:TypeId)(k:IntKind)(m n:Int):cw P H ⟨d,.binOp .mul t x y b,ty,pos,af,g⟩ [.t (.int k m),.t (.int k n)] (.t (.int k (k.wrap (m*n)))):=by intro c w X e _ a;refine⟨.int k (k.wrap (m*n)),?_,.t _ _ (.int _ _)⟩;simp[execOp,dO a.1,dO a.2.1,eqGuard,binOp,Op.intArith]
theorem afP(x y:Operand)(t b:TypeId)(k:IntKind)(m n:Int)(h:n≠0):cw P H ⟨d,.binOp .quo t x y b,ty,pos,af,g⟩ [.t (.int k m),.t (.int k n)] (.t (.int k (k.wrap (m.tdiv n)))):=by intro c w X e _ a;refine⟨.int k (k.wrap (m.tdiv n)),?_,.t _ _ (.int _ _)⟩;simp[execOp,dO a.1,dO a.2.1,eqGuard,binOp,Op.intDiv,h]
theorem afO(x y:Operand)(t b:TypeId)(k:IntKind)(m n:Int)(h:n≠0):cw P H ⟨d,.binOp .rem t x y b,ty,pos,af,g⟩ [.t (.int k m),.t (.int k n)] (.t (.int k (m.tmod n))):=by intro c w X e _ a;refine⟨.int k (m.tmod n),?_,.t _ _ (.int _ _)⟩;simp[execOp,dO a.1,dO a.2.1,eqGuard,binOp,Op.intDiv,h]
theorem af0(x y:Operand)(t b:TypeId)(k:IntKind)(m n:Int):cw P H ⟨d,.binOp .eql t x y b,ty,pos,af,g⟩ [.t (.int k m),.t (.int k n)] (.t (.bool (aj (m=n)))):=by intro c w X e _ a;refine⟨.bool (aj (m=n)),?_,.t _ _ (.bool _)⟩;simp[execOp,dO a.1,dO a.2.1,eqGuard,binOp,Op.intCmp];rfl
theorem afR(x y:Operand)(t b:TypeId)(k:IntKind)(m n:Int):cw P H ⟨d,.binOp .neq t x y b,ty,pos,af,g⟩ [.t (.int k m),.t (.int k n)] (.t (.bool (!decide (m=n)))):=by intro c w X e _ a;refine⟨.bool (!decide (m=n)),?_,.t _ _ (.bool _)⟩;simp[execOp,dO a.1,dO a.2.1,eqGuard,binOp,Op.intCmp];rfl
theorem afW(x y:Operand)(t b:TypeId)(k:IntKind)(m n:Int):cw P H ⟨d,.binOp .lss t x y b,ty,pos,af,g⟩ [.t (.int k m),.t (.int k n)] (.t (.bool (aj (m<n)))):=by intro c w X e _ a;refine⟨.bool (aj (m<n)),?_,.t _ _ (.bool _)⟩;simp[execOp,dO a.1,dO a.2.1,eqGuard,binOp,Op.intCmp]
theorem afX(x y:Operand)(t b:TypeId)(k:IntKind)(m n:Int):cw P H ⟨d,.binOp .leq t x y b,ty,pos,af,g⟩ [.t (.int k m),.t (.int k n)] (.t (.bool (aj (m<=n)))):=by intro c w X e _ a;refine⟨.bool (aj (m<=n)),?_,.t _ _ (.bool _)⟩;simp[execOp,dO a.1,dO a.2.1,eqGuard,binOp,Op.intCmp]
theorem afY(x y:Operand)(t b:TypeId)(k:IntKind)(m n:Int):cw P H ⟨d,.binOp .gtr t x y b,ty,pos,af,g⟩ [.t (.int k m),.t (.int k n)] (.t (.bool (aj (n<m)))):=by intro c w X e _ a;refine⟨.bool (aj (n<m)),?_,.t _ _ (.bool _)⟩;simp[execOp,dO a.1,dO a.2.1,eqGuard,binOp,Op.intCmp]
theorem afZ(x y:Operand)(t b:TypeId)(k:IntKind)(m n:Int):cw P H ⟨d,.binOp .geq t x y b,ty,pos,af,g⟩ [.t (.int k m),.t (.int k n)] (.t (.bool (aj (n<=m)))):=by intro c w X e _ a;refine⟨.bool (aj (n<=m)),?_,.t _ _ (.bool _)⟩;simp[execOp,dO a.1,dO a.2.1,eqGuard,binOp,Op.intCmp]
theorem af1(x y:Operand)(t b:TypeId)(m n:List UInt8)(h:(m.length:Int)+n.length<=9223372036854775807):cw P H ⟨d,.binOp .add t x y b,ty,pos,af,g⟩ [.t (.str m),.t (.str n)] (.t (.str (m++n))):=by
 intro k w X l _ a;refine⟨.string ⟨(m++n).toArray⟩,?_,.t _ _ (.str _)⟩;have c:(ByteArray.mk m.toArray).size=m.length:=by simp[ByteArray.size]
 have e:(ByteArray.mk n.toArray).size=n.length:=by simp[ByteArray.size]
 have i:(ByteArray.mk m.toArray)++(ByteArray.mk n.toArray)=ByteArray.mk (m++n).toArray:=by
  apply ByteArray.ext;simp
 simp[execOp,hG a.1,hG a.2.1,eqGuard,binOp,Op.stringOp,c,e,i];exact h
theorem aeJ(x y:Operand)(t b:TypeId)(m n:List UInt8):cw P H ⟨d,.binOp .eql t x y b,ty,pos,af,g⟩ [.t (.str m),.t (.str n)] (.t (.bool (aj (m=n)))):=by
 intro c w X e _ a;refine⟨.bool (aj (m=n)),?_,.t _ _ (.bool _)⟩;simp[execOp,hG a.1,hG a.2.1,eqGuard,binOp,Op.stringOp]
 grind
theorem aeE(x y:Operand)(t b:TypeId)(m n:List UInt8):cw P H ⟨d,.binOp .neq t x y b,ty,pos,af,g⟩ [.t (.str m),.t (.str n)] (.t (.bool (!decide (m=n)))):=by
 intro c w X e _ a;refine⟨.bool (!decide (m=n)),?_,.t _ _ (.bool _)⟩;simp[execOp,hG a.1,hG a.2.1,eqGuard,binOp,Op.stringOp]
 grind
theorem aeI(x y:Operand)(t b:TypeId)(m n:List UInt8):cw P H ⟨d,.binOp .geq t x y b,ty,pos,af,g⟩ [.t (.str m),.t (.str n)] (.t (.bool (!Op.bytesLess m n))):=by intro c w X e _ a;refine⟨.bool (!Op.bytesLess m n),?_,.t _ _ (.bool _)⟩;simp[execOp,hG a.1,hG a.2.1,eqGuard,binOp,Op.stringOp]
theorem aax(x y:Operand)(l:List UInt8)(n:Nat)(b:UInt8)(e:P.underlying t=aa .string)(h:l[n]? =aa b):cw P H ⟨d,.index t x y,ty,pos,af,g⟩ [.t (.str l),.t (.int .i64 (n:Nat))] (.t (.int .u8 b.toNat)):=by
 intro k w X m _ c;refine⟨.int .u8 b.toNat,?_,.t _ _ (.int _ _)⟩;have i:(ByteArray.mk l.toArray)[n]? =aa b:=by
  have a:=(d0.1 h).1;have bR:=(d0.1 h).2;rw[getElem?_pos _ _ (by simpa[ByteArray.size] using a)];simpa[ByteArray.getElem_eq_getElem_data] using bR
 simp[execOp,hG c.1,dO c.2.1,Instr.index,asIntOf,run_underlying e,i]
theorem afQ(x:Operand)(t:TypeId)(b:Bool):cw P H ⟨d,.unOp .not t x,ty,pos,af,g⟩ [.t (.bool b)] (.t (.bool (!b))):=by intro c w X e _ a;refine⟨.bool (!b),?_,.t _ _ (.bool _)⟩;simp[execOp,nK a.1,Op.unary]
theorem U2(w:World)(n:Nat)(a b:Bool)(c:P.underlying t=aa .bool):(Op.equalIn (n+1) t (.bool a) (.bool b)).run P w= .ok (a==b) w:=by simp[Op.equalIn,run_underlying c]
theorem K1(w:World)(a b:Bool)(c:P.underlying t=aa .bool):(Op.equal t (.bool a) (.bool b)).run P w= .ok (a==b) w:=U2 w 9999 a b c
theorem aac(a b:Bool):binOp .eql t (.bool a) (.bool b)=(do pure (.bool (<-Op.equal t (.bool a) (.bool b)))):=rfl
theorem aab(a b:Bool):binOp .neq t (.bool a) (.bool b)=(do pure (.bool (!(<-Op.equal t (.bool a) (.bool b))))):=rfl
theorem aeQ(x y:Operand)(b:TypeId)(m n:Bool)(c:P.underlying t=aa .bool):cw P H ⟨d,.binOp .eql t x y b,ty,pos,af,g⟩ [.t (.bool m),.t (.bool n)] (.t (.bool (m==n))):=by intro e w X h _ a;refine⟨.bool (m==n),?_,.t _ _ (.bool _)⟩;simp[execOp,nK a.1,nK a.2.1,eqGuard,aac,K1 w m n c]
theorem aeP(x y:Operand)(b:TypeId)(m n:Bool)(c:P.underlying t=aa .bool):cw P H ⟨d,.binOp .neq t x y b,ty,pos,af,g⟩ [.t (.bool m),.t (.bool n)] (.t (.bool (!(m==n)))):=by intro e w X h _ a;refine⟨.bool (!(m==n)),?_,.t _ _ (.bool _)⟩;simp[execOp,nK a.1,nK a.2.1,eqGuard,aab,K1 w m n c]
theorem PR(x:Operand)(a b:TypeId)(k c:IntKind)(e:TypeDesc)(n:Int)(h:P.underlying a=aa e)(i:P.underlying b=aa (.int c)):cw P H ⟨d,.convert a b x,ty,pos,af,g⟩ [.t (.int k n)] (.t (.int c (c.wrap n))):=by intro m w X o _ l;refine⟨.int c (c.wrap n),?_,.t _ _ (.int _ _)⟩;simp only[execOp,dO l.1,convert,e4,run_underlying h,run_underlying i,eV];cases e<;>simp[Conv.intToInt]
theorem aaq(x:Operand)(l:List UInt8)(a:P.underlying t=aa .string):cw P H ⟨d,.call {callee:= .builtin .len,args:= #[x],argTypes:= #[t]},ty,pos,af,g⟩ [.t (.str l)] (.t (.int .i64 (l.length:Nat))):=by
 intro i w X b _ c;refine⟨.int .i64 (l.length:Nat),?_,.t _ _ (.int _ _)⟩;have e:b x= .string ⟨l.toArray⟩:=hG c.1;have h:(ByteArray.mk l.toArray).size=l.length:=by simp[ByteArray.size]
 simp[execOp,resolve,invoke,builtin,e,Builtin.len_,run_underlying a,goInt,h]
theorem afo{G:Map}{w:World}{X:Nat->Prop}{c:List (List T)}{u:Value}(h:bB G w X (.t (.bG c)) u): ∃a cap,u= .slice a c.length cap:=by
 cases h with
 |t _ _ h=>cases h with
  |gh a cap=>exact⟨a,cap,rfl⟩
  |bG _ b e size cap=>exact⟨_,cap,rfl⟩
theorem abM(x:Operand)(e:TypeId)(b:List (List T))(h:P.underlying t=aa (.slice e)):cw P H ⟨d,.call {callee:= .builtin .len,args:= #[x],argTypes:= #[t]},ty,pos,af,g⟩ [.t (.bG b)] (.t (.int .i64 (b.length:Nat))):=by intro m w X i _ k;obtain⟨a,l,c⟩:=afo k.1;refine⟨.int .i64 (b.length:Nat),?_,.t _ _ (.int _ _)⟩;have c:i x=_:=c;simp[execOp,resolve,invoke,builtin,c,Builtin.len_,run_underlying h,goInt]
theorem aar(x:Operand)(e:TypeId)(n gen c i h:Nat)(r:P.underlying t=aa (.slice e))(o:TypeId)(k:List (List T))(s:H n=aa (.arr o gen c k)):cw P H ⟨d,.call {callee:= .builtin .len,args:= #[x],argTypes:= #[t]},ty,pos,af,g⟩ [.bf n gen c i h] (.t (.int .i64 (h:Nat))):=by
 intro y w X p A B;obtain⟨a,cap,l⟩: ∃a cap,p x= .slice a h cap:=by
  have C:bB y w X (.bf n gen c i h) (p x):=B.1;obtain⟨q,D⟩:=l3 (A n _ s);rcases ff C D with ⟨cap,b,m,F,l,_⟩|⟨_,_,G,l⟩
  ·exact⟨_,_,l⟩
  exact⟨ak,0,by rw[G];exact l⟩
 refine⟨.int .i64 (h:Nat),?_,.t _ _ (.int _ _)⟩;simp[execOp,resolve,invoke,builtin,l,Builtin.len_,run_underlying r,goInt]
theorem aas(x:Operand)(a:List V)(k:Nat)(v:V)(h:a[k]? =aa v):cw P H ⟨d,.extract x k,ty,pos,af,g⟩ [.bY a] v:=by
 intro l w X c _ m;have e:bB l w X (.bY a) (c x):=m.1;generalize n:c x=y at e;cases e with
 |bY _ b o p=>
  have i:k<b.size:=by rw[o];exact(d0.1 h).1
  refine⟨b[k],?_,p k v b[k] h (by simp[i])⟩;simp[execOp,n,Instr.extract,i]
theorem Mm(x:Operand)(v:V)(a:(match v with| .ref _ _=>ab| .aU _=>ab|_=>al)=ab):cw P H ⟨d,.nilCheck x,ty,pos,af,g⟩ [v] v:=by
 intro h w X b _ i;have c:bB h w X v (b x):=i.1;refine⟨b x,?_,c⟩;generalize e:b x=y at c;cases c with
 |ref=>simp[execOp,e]
 |aU=>simp[execOp,e]
 |cQ=>cases a
 |k'=>cases a
 |kd=>cases a
 |t=>cases a
 |agg=>cases a
 |bY=>cases a
 |bf=>cases a
 |hq=>cases a
 |fn=>cases a
 |c'=>cases a
theorem dr.fF: ∀{β:Map} {w:World} {X:Nat->Prop} {a:List V} {b:List Value},dr β w X a b->b.length=a.length/\ ∀(i:Nat) c u,a[i]? =aa c->b[i]? =aa u->bB β w X c u
 |_,_,_,[],[],_=>⟨rfl,λi c u h _=>by simp at h⟩
 |_,_,_,v::a,x::b,h=>by
  obtain⟨l,m⟩:=dr.fF h.2;refine⟨by simp[l],λi c u e k=>?_⟩;cases i with
  |zero=>simp at e k;subst e;subst k;exact h.1
  |succ i=>simp at e k;exact m i c u e k
 |_,_,_,[],_::_,h=>h.elim
 |_,_,_,_::_,[],h=>h.elim
theorem Zc(f:FuncId)(a:Array Operand)(b:List V):cw P H ⟨d,.makeFunc (.func f) #[] a,ty,pos,af,g⟩ b (.fn f b):=by
 intro k w X h _ l;have e:dr k w X b (a.toList.map h):=by simpa[Op.operands] using l
 obtain⟨m,n⟩:=e.fF;exact⟨.func (.func f) #[] (a.map h),by simp[execOp,Instr.makeFunc],.fn f b _ (by simpa using m) λi c u o p=>n i c u o (by simpa using p)⟩
theorem afV(x y:Operand)(a:Array TypeId)(k:IntKind)(m n:Int):cw P H ⟨d,.call {callee:= .builtin .max,args:= #[x,y],argTypes:=a},ty,pos,af,g⟩ [.t (.int k m),.t (.int k n)] (.t (.int k (max m n))):=by
 intro o w X b _ c;refine⟨.int k (max m n),?_,.t _ _ (.int _ _)⟩;have e:b x= .int k m:=dO c.1;have h:b y= .int k n:=dO c.2.1;have i:(if n>m then n else m)=max m n:=by split<;>omega
 have l: ∀w,(Builtin.max_ a ty #[.int k m,.int k n]).run P w= .ok (.int k (max m n)) w:=by
  intro w;simp only[Builtin.max_,List.foldlM,Builtin.max2,i];rfl
 simp[execOp,resolve,invoke,builtin,e,h,l]
theorem afU(x y:Operand)(a:Array TypeId)(k:IntKind)(m n:Int):cw P H ⟨d,.call {callee:= .builtin .min,args:= #[x,y],argTypes:=a},ty,pos,af,g⟩ [.t (.int k m),.t (.int k n)] (.t (.int k (min m n))):=by
 intro l w X b _ c;refine⟨.int k (min m n),?_,.t _ _ (.int _ _)⟩;have e:b x= .int k m:=dO c.1;have h:b y= .int k n:=dO c.2.1;have i: ∀w,(Builtin.min_ a ty #[.int k m,.int k n]).run P w= .ok (.int k (min m n)) w:=by
  intro w;simp only[Builtin.min_,List.foldlM,Builtin.min2]
  first|rfl|(rw[show min m n=(if n<m then n else m) from by split<;>omega];rfl)
 simp[execOp,resolve,invoke,builtin,e,h,i]
end oa
section oa
variable {P:Program}{H:Nat->Option E}{d:Option Tmp}{ty:TypeId}{pos:String}{af:Array Edge}{g:Option (Nat×Bool)}
variable {t:TypeId}{u:TypeDesc}{z:Value}{size bytes:Nat}
theorem jz(w:World)(n:Nat)(y:Nat)(c:Go.BoundsCode)(h:n<=y):(Instr.sliceBound (.int .i64 (n:Nat)) y c).run P w= .ok n w:=by
 simp[Instr.sliceBound,asIntOf]
 grind
theorem F0(l:List UInt8)(a b:Nat):(ByteArray.mk l.toArray).extract a b=ByteArray.mk ((l.take b).drop a).toArray:=by
 apply ByteArray.ext;rw[ByteArray.data_extract]
 grind
theorem Xr(x:Operand)(h i:Operand)(l:List UInt8)(a b:Nat)(k:P.underlying t=aa .string)(m:a<=b)(n:b<=l.length):
  cw P H ⟨d,.slice t x (aa h) (aa i) ak,ty,pos,af,g⟩ [.t (.str l),.t (.int .i64 (a:Nat)),.t (.int .i64 (b:Nat))] (.t (.str ((l.take b).drop a))):=by
 intro s w X c _ e;refine⟨.string ⟨((l.take b).drop a).toArray⟩,?_,.t _ _ (.str _)⟩;have o:c x=_:=hG e.1;have p:c h=_:=dO e.2.1;have q:c i=_:=dO e.2.2.1;have r:(ByteArray.mk l.toArray).size=l.length:=by simp[ByteArray.size]
 simp[execOp,o,p,q,Instr.sliceAt,Instr.slice,run_underlying k,Instr.sliceBounds,r,jz w b l.length _ n,jz w a b _ m,F0]
theorem UF(x:Operand)(b:Operand)(l:List UInt8)(a:Nat)(h:P.underlying t=aa .string)(i:a<=l.length):
  cw P H ⟨d,.slice t x (aa b) ak ak,ty,pos,af,g⟩ [.t (.str l),.t (.int .i64 (a:Nat))] (.t (.str (l.drop a))):=by
 intro o w X c _ e;refine⟨.string ⟨(l.drop a).toArray⟩,?_,.t _ _ (.str _)⟩;have k:c x=_:=hG e.1;have m:c b=_:=dO e.2.1;have n:(ByteArray.mk l.toArray).size=l.length:=by simp[ByteArray.size]
 simp[execOp,k,m,Instr.sliceAt,Instr.slice,run_underlying h,Instr.sliceBounds,n,jz w a l.length _ i,F0]
theorem Vv(x:Operand)(a:Operand)(l:List UInt8)(b:Nat)(h:P.underlying t=aa .string)(i:b<=l.length):
  cw P H ⟨d,.slice t x ak (aa a) ak,ty,pos,af,g⟩ [.t (.str l),.t (.int .i64 (b:Nat))] (.t (.str (l.take b))):=by
 intro o w X c _ e;refine⟨.string ⟨(l.take b).toArray⟩,?_,.t _ _ (.str _)⟩;have k:c x=_:=hG e.1;have m:c a=_:=dO e.2.1;have n:(ByteArray.mk l.toArray).size=l.length:=by simp[ByteArray.size]
 simp[execOp,k,m,Instr.sliceAt,Instr.slice,run_underlying h,Instr.sliceBounds,n,jz w b l.length _ i,F0]
theorem c8.part{w:World}{X:Nat->Prop}{c:List (List T)}{v:Value}(h:c8 w X (.bG c) v)(a b size:Nat)(V:a<=b)(B:b<=c.length)(o: ∀m,m∈c->m.length=size):
  ∃p k,v= .slice p c.length k/\c.length<=k/\c8 w X (.bG ((c.take b).drop a)) (.slice (if k=a then p else p.map (·.add (a*size))) (b-a) (k-a)):=by
 cases h with
 |gh p k=>
  have Q:a=0:=by simp at B;omega
  have C:b=0:=by simp at B;omega
  subst Q;subst C;exact⟨p,k,rfl,bl,by simpa using c8.gh _ _⟩
 |bG _ R D l k f C W q r I M=>
  refine⟨_,k,rfl,q,?_⟩;have n:((c.take b).drop a).length=b-a:=ca
  by_cases F:a=b
  ·subst F;rw[show(c.take a).drop a=[] by simp];rw[kX];exact .gh _ _
  have G:c≠[]:=by intro e;subst e;simp at B;omega
  obtain⟨L,s⟩:=Ep c G;have K:l=size:=by rw[<-r L s,o L s]
  subst K;rw[be O];simp only[gP,jC];rw[<-n];refine .bG _ R (D+a*l) l (k-a) (λi j=>f (a+i) j) C W (by rw[n];omega) (λm y=>o m (gn (ft y))) (λi j N S=>?_) λi j m x A U=>?_
  ·have:=I (a+i) j (by rw[n] at N;omega) S;rw[dN,<-nU] at this;exact this
  refine M (a+i) j m x ?_ U;rw[fv,fs] at A;split at A
  ·exact A
  cases A
theorem Vc(x:Operand)(k:Operand)(e:TypeId)(b:List (List T))(a:Nat)(q:P.underlying t=aa (.slice e))(r:cn P e u z size bytes)(l:a<=b.length)(i: ∀c,c∈b->c.length=size):
  cw P H ⟨d,.slice t x (aa k) ak ak,ty,pos,af,g⟩ [.t (.bG b),.t (.int .i64 (a:Nat))] (.t (.bG (b.drop a))):=by
 intro s w X m _ n;have y:m k=_:=dO n.2.1;have A:bB s w X (.t (.bG b)) (m x):=n.1;cases A with
 |t _ _ h=>
  obtain⟨D,B,C,o,p⟩:=h.part a b.length size l (df _) i;rw[dZ] at p;refine⟨_,?_,.t _ _ p⟩;simp[execOp,C,y,Instr.sliceAt,Instr.slice,run_underlying q,Instr.sliceBounds,jz w a b.length _ l,r.run_sizeOf]
theorem Vz(x:Operand)(l:Operand)(e:TypeId)(a:List (List T))(b:Nat)(q:P.underlying t=aa (.slice e))(r:cn P e u z size bytes)(s:b<=a.length)(i: ∀c,c∈a->c.length=size):
  cw P H ⟨d,.slice t x ak (aa l) ak,ty,pos,af,g⟩ [.t (.bG a),.t (.int .i64 (b:Nat))] (.t (.bG (a.take b))):=by
 intro y w X m _ n;have A:m l=_:=dO n.2.1;have B:bB y w X (.t (.bG a)) (m x):=n.1;cases B with
 |t _ _ h=>
  obtain⟨D,k,C,o,p⟩:=h.part 0 b size (Nat.zero_le _) s i;simp only[List.drop_zero] at p;refine⟨_,?_,.t _ _ p⟩;simp[execOp,C,A,Instr.sliceAt,Instr.slice,run_underlying q,Instr.sliceBounds,jz w b k _ O,r.run_sizeOf]
theorem Za(x:Operand)(o p:Operand)(e:TypeId)(c:List (List T))(a b:Nat)(s:P.underlying t=aa (.slice e))(y:cn P e u z size bytes)(q:a<=b)(A:b<=c.length)(k: ∀i,i∈c->i.length=size):
  cw P H ⟨d,.slice t x (aa o) (aa p) ak,ty,pos,af,g⟩ [.t (.bG c),.t (.int .i64 (a:Nat)),.t (.int .i64 (b:Nat))] (.t (.bG ((c.take b).drop a))):=by
 intro B w X l _ m;have C:l o=_:=dO m.2.1;have D:l p=_:=dO m.2.2.1;have F:bB B w X (.t (.bG c)) (l x):=m.1;cases F with
 |t _ _ h=>
  obtain⟨L,n,G,r,K⟩:=h.part a b size q A k;refine⟨_,?_,.t _ _ K⟩;simp[execOp,G,C,D,Instr.sliceAt,Instr.slice,run_underlying s,Instr.sliceBounds,jz w b n _ O,jz w a b _ q,y.run_sizeOf]
end oa
theorem c8.ajp{w:World}{X:Nat->Prop}{a:List (List T)}{e:Option Addr}{n i:Nat}(h:c8 w X (.bG a) (.slice e n i))(c:Nat)(p:n<=c):c8 w X (.bG a) (.slice e n c):=by
 cases h with
 |gh=>exact .gh _ c
 |bG _ b k size _ f q r o l m s=>exact .bG a b k size c f q r p l m s
theorem W8{P:Program}{H:Nat->Option E}{d:Option Tmp}{ty t:TypeId}{pos:String}{af:Array Edge}{g:Option (Nat×Bool)}{u:TypeDesc}{z:Value}{i n:Nat}(x r s:Operand)(e:TypeId)(a:List (List T))(b:Nat)(C:P.underlying t=aa (.slice e))(D:cn P e u z i n)(F:b<=a.length)(l: ∀c,c∈a->c.length=i):
  cw P H ⟨d,.slice t x ak (aa r) (aa s),ty,pos,af,g⟩ [.t (.bG a),.t (.int .i64 (b:Nat)),.t (.int .i64 (b:Nat))] (.t (.bG (a.take b))):=by
 intro G w X m _ o;have K:m r=_:=dO o.2.1;have L:m s=_:=dO o.2.2.1;have Q:bB G w X (.t (.bG a)) (m x):=o.1;cases Q with
 |t _ _ h=>
  obtain⟨y,k,R,A,p⟩:=h.part 0 b i (Nat.zero_le _) F l;simp only[List.drop_zero,Nat.zero_mul,Nat.sub_zero] at p;have q:c8 w X (.bG (a.take b)) (.slice (if b=0 then y else y.map (·.add 0)) b b):=by
   by_cases B:b=0
   ·subst B;exact .gh _ _
   rw[be (show¬k=0 by omega)] at p;rw[be B];exact p.ajp b (df _)
  refine⟨_,?_,.t _ _ q⟩;simp[execOp,R,K,L,Instr.sliceAt,Instr.slice,run_underlying C,Instr.sliceBounds,jz w b k _ O,jz w b b _ (Nat.le_refl _),D.run_sizeOf]
section
def qs(e:Map)(w:World)(X:Nat->Prop)(a:List V)(b:List Value):Prop:=b.length=a.length/\ ∀(i:Nat) c u,a[i]? =aa c->b[i]? =aa u->bB e w X c u
variable {w:World}{X:Nat->Prop}{o:Oper}{vals:List V}{v:V}{n:Nat}
theorem qs.nb{G:Map}{Y a:List V}{b c:List Value}(h:qs G w X Y b)(k:qs G w X a c)(e:Nat)(i:e+a.length<=Y.length):
  qs G w X (nb Y e a) (b.take e++c++b.drop (e+c.length)):=by refine⟨?_,Mi Y a e i b c h.1 k.1 h.2 k.2⟩;have l:=h.1;have cA:=k.1;simp[Lift.nb];omega
theorem N0: ∀(b:List Value) (k a:Nat) (cells:Array Value),a+k+b.length<=cells.size->
  (b.zipIdx k).foldl (λcs (p:Value×Nat)=>cs.setIfInBounds (a+p.2) p.1) cells=(cells.toList.take (a+k)++b++cells.toList.drop (a+k+b.length)).toArray
 | [],k,a,cells,_=>bl
 |v::b,k,a,cells,h=>by simp only[List.zipIdx_cons,List.foldl_cons];simp only[List.length_cons] at h;rw[N0 b (k+1) a _ ca];have e:=list_seg_step cells.toList (a+k) v b ca;simp only[Array.toList_setIfInBounds,List.length_cons];congr 1
def kl(a:Nat->Option (Nat×Nat))(e:List V):List (Nat×V)->Option (List V)
 | []=>aa e
 |(i,v)::b=>match a i with
  |none=>ak
  |some (c,size)=>bif v.val&&b8 v.cs.length size&&dA (c+size) e.length then kl a (nb e c v.cs) b else ak
theorem xh{β:Map}{w:World}{X:Nat->Prop}(a:Nat->Option (Nat×Nat)): ∀(is:List Nat) (e:List V) (B:List Value) (cs:List V) (k:Array Value) (m:List V),qs β w X cs k.toList->dr β w X e B->is.length=e.length->
  kl a cs (is.zip e)=aa m-> ∃n,Instr.fill a k (is.zip B)=aa n/\qs β w X m n.toList
 | [],[],[],cs,k,m,h,_,_,l=>by simp[kl] at l;subst l;exact⟨k,rfl,h⟩
 |i::is,v::e,x::B,cs,k,m,h,y,A,l=>by
  simp only[List.zip_cons_cons,kl] at l;cases D:a i with
  |none=>rw[D] at l;cases l
  |some q=>
   obtain⟨b,size⟩:=q;rw[D] at l;simp only[] at l;cases C:(v.val&&b8 v.cs.length size&&dA (b+size) cs.length) with
   |false=>rw[C] at l;cases l
   |true=>
    rw[C,cond_true] at l;simp only[cB] at C;obtain⟨⟨W,cL⟩,R⟩:=C;have cL:=dc cL;have R:=fb R;obtain⟨F,f⟩:=y.1.cells W;have j:k.size=cs.length:=by simpa using h.1
    have G:qs β w X v.cs x.cells.toList:=⟨by simpa using F,λi c u L Q=>f i c u L (by simpa using Q)⟩
    have o:=h.nb G b O;have r:x.cells.zipIdx.foldl (λcs (p:Value×Nat)=>cs.setIfInBounds (b+p.2) p.1) k=(k.toList.take b++x.cells.toList++k.toList.drop (b+x.cells.toList.length)).toArray:=by
     rw[<-Array.foldl_toList,Array.toList_zipIdx]
     have:=N0 x.cells.toList 0 b k (by simp[F];omega);simpa using this
    obtain⟨n,L,Q⟩:=xh a is e B (nb cs b v.cs) (k.toList.take b++x.cells.toList++k.toList.drop (b+x.cells.toList.length)).toArray m (by simpa using o) y.2 (by simpa using A) l;refine⟨n,?_,Q⟩;simp only[List.zip_cons_cons,Instr.fill,D];rw[be (by simp[F];omega),r];exact L
 | [],_::_,_,_,_,_,_,_,A,_=>by simp at A
 |_::_,[],_,_,_,_,_,_,A,_=>by simp at A
 | [],[],_::_,_,_,_,_,y,_,_=>y.elim
 |_::_,_::_,[],_,_,_,_,y,_,_=>y.elim
theorem wM(b:Operand->Value): ∀a:List (Nat×Operand),a.map (λp=>(p.1,b p.2))=(a.map (·.1)).zip ((a.map (·.2)).map b)
 | []=>rfl
 |p::a=>by simp only[List.map_cons,List.zip_cons_cons,wM b a]
def CC(P:Program)(H:Nat->Option E)(o:Oper)(a:List V)(v:V):Prop:=
 ∀(c:Map) (w:World) (X:Nat->Prop) (i:Operand->Value),(∀id e,H id=aa e->c4 c w X id e)->(∀b,X b->b<w.heap.size)->
  dr c w X a (o.op.operands.toList.map i)-> ∃u h,(execOp i o).run P w= .ok (.value u) h/\Ext (λ_=>False) w h/\bB c h X v u
theorem cw.g{P:Program}{H:Nat->Option E}(h:cw P H o vals v):CC P H o vals v:=
 λa w X b c _ e=>let ⟨u,i,k⟩:=h a w X b c e;⟨u,w,i,Ext.refl _ _,k⟩
theorem Rel.Kg{K:Ctx}{β:Map}{s:S}{a:Act}(c:Rel K β s a w): ∀b,own K β s.H b->b<w.heap.size:=by
 rintro b (e|⟨id,_,h⟩)
 ·exact lu (c.kq b e).1 c.ext.size
 exact(c.fresh id b h).2
theorem KO{K:Ctx}{s:S}(m: ∀i,o.dst=aa i->dn i K.nt=ab)(n:fH (o.op.operands.toList.map s.get) vals)(h:CC K.P s.H o vals v):
  dX K o s (s.put o.dst v):=by
 intro k a w next Q c p
 obtain⟨u,q,b,l,r⟩:=h k w (own K k s.H) a.eval (λid e l=>(c.heap id e l).2) c.Kg ((c.oF _).le n);unfold Oper.wp;rw[b];exact p k _ q ((c.grow l).put o.dst m r)
section ops
variable {P:Program}{H:Nat->Option E}{d:Option Tmp}{ty:TypeId}{pos:String}{af:Array Edge}{g:Option (Nat×Bool)}
variable {t:TypeId}{u:TypeDesc}{z:Value}{size bytes:Nat}
theorem Bm(b:Map)(w:World)(X:Nat->Prop)(us:List Value)(n:Nat)(h:us.length=n):qs b w X (dh n .c') us:=
 ⟨by simp[h],λi c u a _=>by
  rw[uc] at a;split at a
  ·cases a;exact .c' _
  cases a⟩
theorem adE(h:Array (Nat×Operand))(C:Array Field)(a:Array (Nat×Nat))(b k:List V)(D:cn P t (.struct C) z size bytes)
  (F: ∀w,(C.mapM (m:=Sem) λf:Field=>do pure (f.offset,<-sizeOf f.type)).run P w= .ok a w) (G:(d7 z).val=ab) (l:b8 h.toList.length b.length=ab)
  (L:kl (a[·]?) (d7 z).cs ((h.toList.map (·.1)).zip b)=aa k):cw P H ⟨d,.build t h,ty,pos,af,g⟩ b (.agg k):=by
 intro p w X n _ Q;have q:dr p w X b ((h.toList.map (·.2)).map n):=by simpa[Op.operands] using Q
 obtain⟨R,W⟩:=(zF p w X z).cells G;obtain⟨r,y,o⟩:=xh (β:=p) (w:=w) (X:=X) (a[·]?) (h.toList.map (·.1)) b _ (d7 z).cs z.cells k ⟨by simpa using R,λi c u y o=>W i c u y (by simpa using o)⟩ q (by simpa using dc l) L;refine⟨.agg r,?_,.agg _ _ (by simpa using o.1) λi c u j v=>o.2 i c u j (by simpa using v)⟩;have A:=wM n h.toList;have B:=F w;simp only[execOp,Instr.build,e4,D.rr,eV,run_underlying D.1];rw[B];simp only[eV,Array.toList_map];have e:(h.toList.map λx=>match x with|(i,x)=>(i,n x))=(h.toList.map (·.1)).zip ((h.toList.map (·.2)).map n):=by rw[<-A]
 rw[e,y];rfl
theorem NW(x:Operand)(k:Nat)(A:Array Field)(e:Field)(l:List V)(v:V){a:TypeDesc}{b:Value}{L:Nat}(B:cn P t (.struct A) z size bytes)(C:A[k]? =aa e)(h:cn P e.type a b n L)
  (o:(kF a=ab/\dA (e.offset+n) l.length=ab/\v= .agg ((l.drop e.offset).take n))\/(kF a=al/\l[e.offset]? =aa v)):cw P H ⟨d,.field t x k,ty,pos,af,g⟩ [.agg l] v:=by
 intro W w X D _ m;have F:bB W w X (.agg l) (D x):=m.1;generalize G:D x=y at F;cases F with
 |agg _ p f Q=>
  rcases o with ⟨m,j,rfl⟩|⟨m,o⟩
  ·have I:=fb j;refine⟨.agg (p.extract e.offset (e.offset+n)),?_,.agg _ _ ca λi c u r q=>?_⟩
   ·simp[execOp,G,Instr.field,run_underlying B.1,C,asAgg,part,h.D2,h.run_sizeOf,m]
   have M:i<n:=by
    have:=(d0.1 r).1;simp at this;omega
   rw[List.getElem?_take_of_lt M,fv] at r;refine Q (e.offset+i) c u r ?_;rw[Array.getElem?_extract] at q;split at q
   ·exact q
   cases q
  have R:e.offset<p.size:=by rw[f];exact(d0.1 o).1
  refine⟨p[e.offset],?_,Q _ v p[e.offset] o (by simp[R])⟩;simp[execOp,G,Instr.field,run_underlying B.1,C,asAgg,part,h.D2,m,R]
theorem La(n:Nat)(m:Array (Nat×Operand))(e:TypeId)(k:List V)(a:List (List T))(hu:P.underlying t=aa (.slice e))(N:cn P e u z size bytes)(A:b8 m.toList.length k.length=ab)
  (cR:b8 a.length n=ab) (o: ∀c,c∈a->c.length=size) (B:dA (n*size) 16777216=ab)
  (iv:kl (λi=>aa (i*size,size)) (dh (n*size) .c') ((m.toList.map (·.1)).zip k)=aa (a.flatten.map .t)):
  CC P H ⟨d,.buildSlice t n m,ty,pos,af,g⟩ k (.t (.bG a)):=by
 intro U w X C _ gj gV;have R:=dc cR;have W:dr U w X k ((m.toList.map (·.2)).map C):=by simpa[Op.operands] using gV
 have f:=wM C m.toList;obtain⟨l,p,y⟩:=xh (β:=U) (w:=w) (X:=X) (λi=>aa (i*size,size)) (m.toList.map (·.1)) k _ (dh (n*size) .c')
  ((Array.range (n*size)).map ((if n*size=0 then #[] else z.cells)[· %(if n*size=0 then #[] else z.cells).size]!)) _ (Bm _ _ _ _ _ bl) W (by simpa using dc A) iv
 have D:(execOp C ⟨d,.buildSlice t n m,ty,pos,af,g⟩).run P w= .ok (.value (.slice (aa ⟨w.heap.size,0,ak⟩) n n)) (w.alloc (.cells l e)):=by
  have Y:(m.toList.map λx=>match x with|(i,x)=>(i,C x))=(m.toList.map (·.1)).zip ((m.toList.map (·.2)).map C):=by rw[<-f]
  have v: ¬(n*size>2^24):=by have:=fb B;omega
  simp only[execOp,Instr.buildSlice,e4,run_underlying hu,eV,N.run_sizeOf,v,if_false,Array.toList_map];by_cases L:n*size=0
  ·simp only[L,if_true] at p;simp only[L,if_true,hh,e4,eV];rw[Y,p];rfl
  simp only[L,if_false] at p;simp only[L,if_false,hh,e4,N.rr,eV];rw[Y,p];rfl
 refine⟨_,_,D,Ext.alloc _ _ _,.t _ _ ?_⟩;subst R;have q:l.size=a.flatten.length:=by
  have h:=y.1
  grind
 have I:a.flatten.length=a.length*size:=by
  rw[List.length_flatten]
  have:a.map List.length=dh a.length size:=List.eq_replicate_iff.2 ⟨bl,λb v=>by obtain⟨r,b5,rfl⟩:=eH.1 v;exact o r b5⟩;rw[this];simp
 have F: ∀(a:List (List T)),(∀c,c∈a->c.length=size)-> ∀(i j:Nat) (c:List T) (x:T),a[i]? =aa c->c[j]? =aa x->a.flatten[i*size+j]? =aa x:=by
  intro a;induction a with
  |nil=>intro _ i j c x h _;simp at h
  |cons r a mL=>
   intro hs i j c x p y;have b5:=hs r bl;rw[List.flatten_cons];cases i with
   |zero=>
    simp at p;subst p
    have:=(d0.1 y).1;rw[gN,dy,hz this];exact y
   |succ i=>
    simp at p;rw[hS (by rw[b5,dN];omega)];rw[show(i+1)*size+j-r.length=i*size+j by rw[b5,dN];omega];exact mL (λc h=>hs c (by simp[h])) i j c x p y
 have G: ∀i j,i<a.length->j<size->i*size+j<l.size:=by
  intro i j aL Q;rw[q,I]
  have:(i+1)*size<=a.length*size:=dQ _ aL
  grind
 refine .bG a w.heap.size 0 size a.length (λi j=>l.getD (i*size+j) undef) bl (λh=>by have:=gj _ h;omega) (df _) o (λi j aL Q=>?_) λi j c x M h4=>?_
 ·rw[dy,World.cell?_alloc_new]
  have:=G i j aL Q;simp[this]
 have h5:=F a o i j c x M h4;have aL:=(d0.1 M).1;have Q:j<size:=by rw[<-o c (bX M)];exact(d0.1 h4).1
 have h6:=G i j aL Q;have lT:=y.2 (i*size+j) (.t x) l[i*size+j] (by rw[eG,h5];rfl) (by simp[h6]);cases lT with
 |t _ _ h=>
  have:l.getD (i*size+j) undef=l[i*size+j]:=by simp[h6]
  rw[this];exact h.mono (Ext.alloc X _ _) λ_ _ h=>h
end ops
theorem m6{i j size:Nat}(a:i<n)(b:j<size):i*size+j<n*size:=by
 have:(i+1)*size<=n*size:=dQ _ a
 grind
section ops
variable {K:Ctx}{s:S}{d:Option Tmp}{ty:TypeId}{pos:String}{af:Array Edge}{g:Option (Nat×Bool)}
variable {t:TypeId}{u:TypeDesc}{z:Value}{size bytes:Nat}
theorem P0(k:Nat)(hk:s.u k=al)(l c:Operand)(e:TypeId)(m:Nat)(b:List T)(cI: ∀i,d=aa i->dn i K.nt=ab)(hu:K.P.underlying t=aa (.slice e))(he:cn K.P e u z size bytes)
  (hl:s.get l= .t (.int .i64 (m:Nat))) (bW:s.get c= .t (.int .i64 (m:Nat))) (er:(d7 z).cs=b.map .t) (D:(d7 z).val=ab) (hs:b8 b.length size=ab) (o:dn 0 size=ab) (hm:m*bytes<=281474976710656) (vC:m<=9223372036854775807):
  dX K ⟨d,.makeSlice t l c,ty,pos,af,g⟩ s ((s.new k (.arr e 1 size (dh m b))).put d (.bf k 1 size 0 m)):=by
 intro F a w next Q W X
 have G:=W.get l;rw[hl] at G;have L:=W.get c;rw[bW] at L;have G:=dO G;have L:=dO L;have p:=dc hs;have hp:0<size:=by simpa[Nat.blt_eq] using o
 obtain⟨c1,c2⟩:=(zF F w (own K F s.H) z).cells D;have q:z.cells.size=size:=by rw[c1,er];simpa using p
 have r:(execOp a.eval ⟨d,.makeSlice t l c,ty,pos,af,g⟩).run K.P w= .ok (.value (.slice (aa ⟨w.heap.size,0,ak⟩) m m)) (w.alloc (.cells ((Array.range (m*size)).map (z.cells[· %z.cells.size]!)) e)):=by
  obtain⟨_,i,f,v,I,sV⟩:=he;have bA:(i.bytes:Int)*(m:Int)<=281474976710656:=by
   grind
  have:=run_make (P:=K.P) w t e i z hu f v .i64 .i64 m m O (hA _) bA O;simp only[Int.toNat_natCast,I,madeCells] at this;simp only[execOp,G,L,e4,this,eV];rfl
 unfold Oper.wp;rw[r];have A:=W.new k 1 hk ((Array.range (m*size)).map (z.cells[· %z.cells.size]!)) e (.arr e 1 size (dh m b)) λβ' X' w' hw cR M=>⟨df _,Or.inr ⟨w.heap.size,_,cR,by subst hw;exact j2 _ _,?_,?_,?_⟩⟩
 ·have N:(w.alloc (.cells ((Array.range (m*size)).map (z.cells[· %z.cells.size]!)) e)).heap.size=w.heap.size+1:=World.size_alloc ..;have U:(w.alloc (.cells ((Array.range (m*size)).map (z.cells[· %z.cells.size]!)) e)).shape? w.heap.size=aa (e,m*size):=by unfold iZ;rw[j2];simp
  have D:bB (F.put k (aa (aa w.heap.size,1))) (w.alloc (.cells ((Array.range (m*size)).map (z.cells[· %z.cells.size]!)) e)) (own K (F.put k (aa (aa w.heap.size,1))) (s.new k (.arr e 1 size (dh m b))).H) (.bf k 1 size 0 m)
    (.slice (aa ⟨w.heap.size,0*size,ak⟩) m m):= .bf k 1 size 0 m m w.heap.size (m*size) e (df _) (cy _ _ _) (N▸nh _) U (by rw[dy]) (df _) (by unfold maxLen;omega)
  rw[gN] at D;exact X _ _ _ (A.put d cI D)
 ·simp
 ·intro V vF
  grind
 intro i j V x y R hj Y;rw[uc] at R;split at R
 ·rename_i ahe;cases R;have n:j<size:=by rw[<-p];exact(d0.1 hj).1
  have B:=m6 ahe n;simp only[Array.getElem?_map,Array.getElem?_range,B,if_true,gP,Option.some.injEq] at Y;have C:(i*size+j)%z.cells.size=j:=by rw[q,Nat.add_comm,Nat.add_mul_mod_self_right,Nat.mod_eq_of_lt n]
  rw[C] at Y;have aih:z.cells[j]? =aa y:=by rw[<-Y];rw[getElem!_pos _ _ O];simp[q,n]
  have h3:=c2 j (.t x) y (by rw[er,eG,hj];rfl) aih;have h4:=M _ _ h3;cases h4 with|t _ _ h=>exact h
 cases R
def Src(w:World)(X:Nat->Prop)(c:Nat)(a:List (List T))(u:Value):Prop:=
 (u= .slice ak 0 0/\a=[])\/ ∃(b e l:Nat) (k:List Value),u= .slice (aa ⟨b,e,ak⟩) a.length l/\k.length=a.length*c/\
  (∀(j:Nat) x,k[j]? =aa x->w.cell? ⟨b,e+j,ak⟩=aa x)/\(∀x,x∈k->x.oneCell'=ab)/\
  ∀(i j:Nat) (h:List T) (x:T) (y:Value),a[i]? =aa h->h[j]? =aa x->k[i*c+j]? =aa y->c8 w X x y
theorem c8.hP{x:T}{u:Value}(h:c8 w X x u):u.oneCell'=ab:=by cases h<;>rfl
theorem Bg{N:Map}{size:Nat}{e:List (List T)}{u:Value}(h:bB N w X (.t (.bG e)) u)(F: ∀k,k∈e->k.length=size)(r:0<size):
  Src w X size e u\/(e=[]/\ ∃a l,u= .slice a 0 l):=by
 cases h with
 |t _ _ h=>cases h with
  |gh a l=>exact .inr ⟨rfl,a,l,rfl⟩
  |bG _ b G c l f bA gj v n U I=>
   by_cases A:e=[]
   ·subst A;exact .inr ⟨rfl,_,_,rfl⟩
   obtain⟨M,B⟩:=Ep e A;have L:c=size:=by rw[<-n M B,F M B]
   subst L;refine .inl (.inr ⟨b,G,l,(List.range (e.length*c)).map λm=>f (m / c) (m%c),rfl,bl,λj x p=>?_,λx V=>?_,λi j k x y q Q D=>?_⟩)
   ·rw[eG] at p;cases o:(List.range (e.length*c))[j]? with
    |none=>rw[o] at p;cases p
    |some R=>
     rw[o] at p;have C:j<e.length*c:=by simpa using (d0.1 o).1
     have W:R=j:=by rw[List.getElem?_range C] at o;cases o;rfl
     subst W;simp at p;rw[<-p]
     have:=U (R / c) (R%c) (by rw[rI r];exact C) (rK _ r);rw[nU,Nat.mul_comm,Nat.div_add_mod] at this;exact this
   ·obtain⟨m,hm,rfl⟩:=eH.1 V;have hm:=w5.1 hm;have q:m / c<e.length:=by rw[rI r];exact hm
    have Q:=rK m r;have D:=n e[m / c] (fW q);exact(I (m / c) (m%c) e[m / c] (e[m / c])[m%c] (bC q) (bC O)).hP
   have p:j<c:=by rw[<-n k (bX q)];exact(d0.1 Q).1
   have aL:=(d0.1 q).1;rw[eG,List.getElem?_range (m6 aL p)] at D;simp at D;rw[<-D];have Y:(i*c+j) / c=i:=by rw[Nat.mul_comm,Nat.mul_add_div r,Nat.div_eq_of_lt p,nV]
   rw[Y,Nat.mod_eq_of_lt p];exact I i j k x q Q
end ops
end
variable {G:Map}{k:Nat}{w:World}
theorem Po{gen:Nat}(q:Option Nat)(b:Option Nat)(e:1<=gen)(h:G k=aa (q,gen)):dT G (G.put k (aa (b,gen+1))):=by
 intro id i l a;by_cases c:id=k
 ·subst c;rw[h] at a;cases a;exact .inr ⟨e,b,gen+1,f5 _ _ _,nh _⟩
 exact .inl (by rw[fw _ _ _ _ c];exact a)
theorem xH{K:Ctx}{s:S}{a:Act}(h:Rel K G s a w):Rel K G s a w.drew:=h.grow (Ext.drew _ _)
theorem Bn{n size:Nat}{rows news:List (List T)}(c m e:List Value)(o:rows.length=n)(p:c.length=n*size)(D:m.length=news.length*size)(A: ∀a,a∈rows->a.length=size)(q: ∀a,a∈news->a.length=size){R:T->Value->Prop}
  (F: ∀(i j:Nat) (a:List T) (x:T) (u:Value),rows[i]? =aa a->a[j]? =aa x->c[i*size+j]? =aa u->R x u)
  (G: ∀(i j:Nat) (a:List T) (x:T) (u:Value),news[i]? =aa a->a[j]? =aa x->m[i*size+j]? =aa u->R x u):
  ∀(i j:Nat) (a:List T) (x:T) (u:Value),(rows++news)[i]? =aa a->a[j]? =aa x->(c++m++e)[i*size+j]? =aa u->R x u:=by
 intro i j a x u h w B;by_cases k:i<rows.length
 ·rw[hz k] at h;have b:j<size:=by rw[<-A a (bX h)];exact(d0.1 w).1
  have l:i*size+j<c.length:=by rw[p,<-o];exact m6 k b
  grind
 rw[hS O] at h;have b:j<size:=by rw[<-q a (bX h)];exact(d0.1 w).1
 have r:=(d0.1 h).1;have l:=m6 (size:=size) r b;have C:c.length<=i*size+j:=by rw[p,<-o];have:=dQ size (O:rows.length<=i);omega
 have y:i*size+j-c.length=(i-rows.length)*size+j:=by rw[p,<-o,uf];have:=dQ size (O:rows.length<=i);omega
 grind
section ops
variable {K:Ctx}{s:S}{d:Option Tmp}{ty:TypeId}{pos:String}{af:Array Edge}{g:Option (Nat×Bool)}
variable {t:TypeId}{u:TypeDesc}{z:Value}{gen size bytes:Nat}
def Rows(size:Nat)(rows:List (List T)):Prop:= ∀a,a∈rows->a.length=size
theorem Rows.nil(size:Nat):Rows size []:=λ_ h=>by simp at h
theorem Rows.map{k:Type}{size:Nat}{f:k->List T}(l:List k)(h: ∀x,(f x).length=size):Rows size (l.map f):=λa b=>by obtain⟨x,_,rfl⟩:=eH.1 b;exact h x
theorem NQ(Q:Nat->V)(k:Nat)(e:TypeId)(F:s.u k=al)(n: ∀(i q:Map) (w:World) (X R:Nat->Prop) (j:Nat) (u:Value),q k=aa (ak,1)->(∀v u,bB i w X v u->bB q w R v u)->bB i w X (s.t j) u->bB q w R (Q j) u):
  s.le K {t:=Q,H:=bb s.H k (aa (.arr e 1 size [])),u:=bb s.u k ab}:=by
 intro i a w h;have r:i k=ak:=h.dY _ F;have o: ∀id x,i id=aa x->i.put k (aa (ak,1)) id=aa x:=λid x A=>by
  rw[fw _ _ _ _ (by intro e;subst e;rw[r] at A;cases A)];exact A
 have B:=dT.of o;have l: ∀id b,At (i.put k (aa (ak,1))) id b->id≠k/\At i id b:=λid b bA=>by
  by_cases n:id=k
  ·subst n;rcases bA with ⟨g,bA⟩|bA
   ·rw[f5] at bA;cases bA
   exact br bA (h.eB _ _ F)
  refine⟨n,?_⟩;rcases bA with ⟨g,bA⟩|bA
  ·rw[fw _ _ _ _ n] at bA;exact .inl ⟨g,bA⟩
  exact .inr bA
 have p: ∀b,own K (i.put k (aa (ak,1))) (bb s.H k (aa (.arr e 1 size []))) b->own K i s.H b:=by
  rintro b (A|⟨id,y,C⟩)
  ·exact .inl A
  obtain⟨G,W⟩:=l id b C;rw[cu _ _ _ _ G] at y;exact .inr ⟨id,y,W⟩
 have L: ∀v u,bB i w (own K i s.H) v u->bB (i.put k (aa (ak,1))) w (own K (i.put k (aa (ak,1))) (bb s.H k (aa (.arr e 1 size [])))) v u:=
  λv u f=>f.mono (Ext.refl _ _) (λb _=>p b) B (Shaped.refl _ _)
 refine⟨i.put k (aa (ak,1)),{h with base:= ?_,low:= ?_,dY:= ?_,eB:= ?_,inj:= ?_,fresh:= ?_,heap:= ?_,dz:= ?_}⟩
 ·refine h.base.keep λid hid=>?_
  have:=h.low id hid;rw[fw _ _ _ _ (by intro e;subst e;rw[F] at this;cases this)]
 ·intro id hid;show bb s.u k ab id=ab;by_cases e:id=k
  ·subst e;exact cy _ _ _
  rw[cu _ _ _ _ e];exact h.low id hid
 ·intro id hid;have c:bb s.u k ab id=al:=hid;by_cases e:id=k
  ·subst e;rw[cy] at c;cases c
  rw[cu _ _ _ _ e] at c;rw[fw _ _ _ _ e];exact h.dY id c
 ·intro id b hid;have c:bb s.u k ab id=al:=hid;by_cases e:id=k
  ·subst e;rw[cy] at c;cases c
  rw[cu _ _ _ _ e] at c;exact h.eB id b c
 ·intro id D b y C;exact h.inj id D b (l id b y).2 (l D b C).2
 ·intro id b bA;exact h.fresh id b (l id b bA).2
 ·intro id e' m;have m:bb s.H k (aa (.arr e 1 size [])) id=aa e':=m;show bb s.u k ab id=ab/\c4 _ _ (own K _ (bb s.H k (aa (.arr e 1 size [])))) id e';by_cases n:id=k
  ·subst n;rw[cy] at m;cases m;exact⟨cy _ _ _,df _,Or.inl ⟨cy _ _ _,rfl⟩⟩
  rw[cu _ _ _ _ n] at m;obtain⟨y,C⟩:=h.heap id e' m;exact⟨by rw[cu _ _ _ _ n];exact y,C.mono (Ext.refl _ _) (λb _=>p b) B (o id) (Shaped.refl _ _) λ_ _=>rfl⟩
 intro j;exact n i _ w _ _ j _ (cy _ _ _) L (h.dz j)
theorem O9{U:Map}{X W:Nat->Prop}{i:Nat}{u:Value}(a:G k=aa (ak,1))(h:bB U w X (.t .fp) u):bB G w W (.bf k 1 i 0 0) u:=by
 cases h with
 |t _ _ b=>cases b;exact .hq k 1 i (df _) a
theorem acO(i k:Nat)(e:TypeId)(c:s.u k=al)(l:s.t i= .t .fp):s.le K {t:=bb s.t i (.bf k 1 size 0 0),H:=bb s.H k (aa (.arr e 1 size [])),u:=bb s.u k ab}:=
 NQ _ k e c (λo m w X p j u n a h=>by
  by_cases b:j=i
  ·subst b;rw[cy];rw[l] at h;exact O9 n h
  rw[cu _ _ _ _ b];exact a _ _ h)
theorem aaW(i j k:Nat)(e:TypeId){Y:List V}(q:s.u k=al)(r:s.t i= .agg Y)(n:Y[j]? =aa (.t .fp)):s.le K {t:=bb s.t i (.agg (Y.set j (.bf k 1 size 0 0))),H:=bb s.H k (aa (.arr e 1 size [])),u:=bb s.u k ab}:=
 NQ _ k e q (λD x w X F y u A a h=>by
  by_cases b:y=i
  ·subst b;rw[cy];rw[r] at h;cases h with|agg _ B C o=>
   refine .agg _ B (by simpa using C) λi c u m p=>?_;by_cases l:i=j
   ·subst l;rw[hR (d0.1 n).1] at m;cases m;exact O9 A (o i _ u n p)
   rw[ls (Ne.symm l)] at m;exact a _ _ (o i c u m p)
  rw[cu _ _ _ _ b];exact a _ _ h)
theorem YQ(x y:Operand)(C i c:Nat)(e:TypeId)(o:List (List T))(l:List T)(m:List T)(hx:s.get x= .cQ C gen size i c){v:V}(hle:dI (s.get y) v)(hy:v.cs=m.map .t)(kO:v.val=ab)(X:s.H C=aa (.arr e gen size o)){A:Nat}(fo:cn K.P t u z A bytes)
  (B:o[i]? =aa l) (hs:m.length=A) (hl:c+A<=size):
  dX K ⟨ak,.store t x y,ty,pos,af,g⟩ s {s with H:=bb s.H C (aa (.arr e gen size (o.set i (l.take c++m++l.drop (c+m.length)))))}:=by
 intro β a w next Q R hk
 have f:=R.get x;rw[hx] at f;obtain⟨q,dp⟩:=l3 (R.heap C _ X).2;obtain⟨b,iP,mK⟩:=pR f dp;subst iP;have bA:=dp;have aL:=(d0.1 B).1;rcases(R.heap C _ X).2.2 with ⟨_,E⟩|⟨h7,p,h1,E,h3,h4,h5⟩
 ·rw[E] at aL;simp at aL
 rw[bA] at h1;cases h1;obtain⟨c1,c2⟩:=(hle _ _ _ _ (R.get y)).cells kO;rw[hy] at c1 c2;have I:(a.eval y).cells.size=A:=by rw[c1];simpa using hs
 have hrl:l.length=size:=h4 l (bX B);have ajX:i*size+size<=p.size:=by
  have:(i+1)*size<=o.length*size:=dQ _ aL;rw[dN] at this;omega
 have M: ∀e∈(a.eval y).cells.toList,e.oneCell'=ab:=by
  intro e he;obtain⟨j,hj⟩:=jq.1 he;have N:(a.eval y).cells[j]? =aa e:=by simpa using hj
  have U:j<m.length:=by have:=(iD.1 N).1;rw[c1] at this;simpa using this
  exact(c2 j (.t m[j]) e (by simp[U]) N).hP rfl
 unfold Oper.wp;have Y:=E4 fo w b (i*size+c) p e (a.eval y) E I O M;have G:(execOp a.eval ⟨ak,.store t x y,ty,pos,af,g⟩).run K.P w= .ok .skip (w.setRow b (p.toList.take (i*size+c)++(a.eval y).cells.toList++p.toList.drop (i*size+c+(a.eval y).cells.toList.length)).toArray):=by
  simp only[execOp,mK,Instr.storeAt,Instr.sureAddr,e4,hh,eV,Y]
 rw[G];have oL:(a.eval y).cells.toList.length=m.length:=by simp[c1]
 have D:(p.toList.take (i*size+c)++(a.eval y).cells.toList++p.toList.drop (i*size+c+(a.eval y).cells.toList.length)).length=p.size:=by
  simp[I];omega
 refine hk β _ _ (Rel.setRow R C b (.inl ⟨_,bA⟩) p e E _ (by simpa using D) (.arr e gen size (o.set i (l.take c++m++l.drop (c+m.length)))) (by rw[X];simp) ?_);have ka:own K β s.H b:= .inr ⟨C,by rw[X];simp,.inl ⟨_,bA⟩⟩;have L: ∀x u,c8 w (own K β s.H) x u->c8 (w.setRow b (p.toList.take (i*size+c)++(a.eval y).cells.toList++p.toList.drop (i*size+c+(a.eval y).cells.toList.length)).toArray) (own K β s.H) x u:=by
  intro v u bR;exact bR.mono ⟨rfl,rfl,rfl,bl,λk _ hx=>setRow_other _ _ _ _ λe=>hx (e▸ka)⟩ λ_ _ h=>h
 have RS:(l.take c++m++l.drop (c+m.length)).length=size:=ca
 refine⟨(R.heap C _ X).2.1,Or.inr ⟨b,_,bA,setRow_heap _ _ _ _ _ _ E,?_,?_,?_⟩⟩
 ·simp only[List.size_toArray,D,List.length_set];exact h3
 ·intro r ahO;rcases w4 ahO with h|h
  ·exact h4 r h
  rw[h];exact RS
 intro n j F jP W aP a2 a3;apply L;have a3:(p.toList.take (i*size+c)++(a.eval y).cells.toList++p.toList.drop (i*size+c+(a.eval y).cells.toList.length))[n*size+j]? =aa W:=by simpa using a3
 simp only[List.getElem?_append,iI,mi,List.getElem?_take,List.getElem?_drop,Array.length_toList] at a3;rw[show min (i*size+c) p.size=i*size+c by omega,show(a.eval y).cells.size=m.length by simpa using oL] at a3;by_cases yG:n=i
 ·subst yG;rw[hR aL] at aP;cases aP;have hjs:j<size:=by rw[<-RS];exact(d0.1 a2).1
  simp only[List.getElem?_append,iI,mi,List.getElem?_take,List.getElem?_drop,hrl] at a2;rw[show min c size=c by omega] at a2;by_cases dm:j<c
  ·rw[bg O,bg dm,bg dm] at a2;rw[bg O,bg O,bg O] at a3;exact h5 n j l jP W B a2 (by simpa using a3)
  by_cases cL:j<c+m.length
  ·rw[bg O,be dm] at a2;rw[bg O,be O] at a3;rw[show n*size+j-(n*size+c)=j-c by omega] at a3;have h9:=c2 (j-c) (.t jP) W (by rw[eG,a2];rfl) (by simpa using a3);cases h9 with|t _ _ h=>exact h
  rw[be O] at a2;rw[be O] at a3;rw[show c+m.length+(j-(c+m.length))=j by omega] at a2;rw[show n*size+c+m.length+(n*size+j-(n*size+c+m.length))=n*size+j by omega] at a3;exact h5 n j l jP W B a2 (by simpa using a3)
 rw[ls (Ne.symm yG)] at aP;have hjs:j<size:=by rw[<-h4 F (bX aP)];exact(d0.1 a2).1
 have hold:p[n*size+j]? =aa W:=by
  rcases Nat.lt_or_ge n i with U|kL
  ·have:n*size+size<=i*size:=by have:=dQ size (O:n+1<=i);rw[dN] at this;omega
   rw[bg O,bg O,bg O] at a3;simpa using a3
  have:i*size+size<=n*size:=by have:=dQ size (O:i+1<=n);rw[dN] at this;omega
  rw[be O] at a3;rw[show i*size+c+m.length+(n*size+j-(i*size+c+m.length))=n*size+j by omega] at a3;simpa using a3
 exact h5 n j F jP W aP a2 hold
end ops
end Go.Lift
