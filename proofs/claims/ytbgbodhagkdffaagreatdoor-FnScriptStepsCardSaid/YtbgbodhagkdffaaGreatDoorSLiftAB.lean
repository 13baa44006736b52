/- Tools. -/
import Derived.Deep.Quiet
import Derived.WalkKit
namespace Go.Lift
open Go
abbrev cc:=@decide_eq_false
abbrev cj:=@decide_eq_true
abbrev bk.{u}:=@if_pos.{u}
abbrev bh.{u}:=@if_neg.{u}
abbrev bu.{u}:=@absurd.{u}
abbrev gu:=@of_decide_eq_true
open Go renaming Value -> bm, TypeId -> bM, Operand -> ct, execOp -> cE, World -> bY, run_underlying -> eR, Program -> ee, TypeDesc -> gF, eqGuard -> iF, binOp -> iE, IntKind -> jT, Field -> mw, BinOp -> nU, setRow_other -> oR, FuncId -> fQ, resolve -> jV, invoke -> jU, setRow_heap -> kS, builtin -> lp, yielded -> w8, sizeOf -> nV, asIntOf -> zO, typeInfo -> qh, loadVar -> IU, fieldPlace -> IP, loadCells -> su, loadCellsFrom -> ss, grownCap_le_maxLen -> DA, run_convert_bytes_arg -> XH, run_eqGuard_agg -> XI, run_equalIn_struct -> XJ
open Option renaming some -> Y, none -> al, map_some -> ln
open Bool renaming true -> I, false -> ao, and_eq_true -> cJ
open Decidable renaming decide -> ak
open List renaming length_append -> fH, length_cons -> fP, length_take -> mv, length_nil -> ho, replicate -> en, map_cons -> jn, length -> U, map -> cb
open Go.Result renaming andThen_ok -> gz
open Go.Builtin renaming zeroCells -> fL
open Go.World renaming shape? -> iV
open Go.Sem renaming run_bind -> gE, run_pure -> jD
open Nat renaming ble -> eh, beq -> cP, blt -> ey
section
variable {p:Prop}{X W:Nat->Prop}{a b c w bZ:bY}{v u:bm}{m:Option Nat}{i j k n sz:Nat}
theorem O(h:p:=by omega):p:=h
theorem Z(h:p:=by dsimp only;omega):p:=h
theorem J(h:p:=by kernel_rfl):p:=h
theorem aZ(h:p:=by simp):p:=h
theorem bV(h:p:=by simp;omega):p:=h
abbrev bO.{u}:=@List.getElem?_eq_getElem.{u}
abbrev ca.{u}:=@List.mem_of_getElem?.{u}
abbrev cI.{u}:=@List.getElem?_eq_some_iff.{u}
abbrev eg:=@Nat.eq_of_beq_eq_true
abbrev ea.{u}:=@List.length_append.{u}
abbrev eb:=@Int.toNat_natCast
abbrev dW.{u}:=@List.length_take.{u}
abbrev eT.{u}:=@List.mem_cons_of_mem.{u}
abbrev fZ.{u}:=@List.getD_eq_getElem?_getD.{u}
abbrev fj:=@Nat.mul_le_mul_right
abbrev eB.{u}:=@List.take_length.{u}
abbrev er.{u,v}:=@List.length_map.{u,v}
abbrev fJ:=@Nat.le_of_ble_eq_true
abbrev fi.{u}:=@List.mem_cons_self.{u}
abbrev fs.{u}:=@List.take_add_one.{u}
abbrev dV:=@Nat.le_refl
abbrev fG.{u,v}:=@List.getElem?_map.{u,v}
abbrev eN.{u}:=@List.mem_cons.{u}
abbrev fy.{u}:=@List.mem_append.{u}
abbrev hi.{u}:=@List.mem_of_mem_take.{u}
abbrev hl.{u}:=@List.mem_of_mem_drop.{u}
abbrev gd.{u}:=@List.getElem_mem.{u}
abbrev jQ.{u}:=@Array.getElem?_eq_getElem.{u}
abbrev e6:=@Nat.zero_add
abbrev fh.{u,v}:=@List.mem_map.{u,v}
abbrev hM.{u}:=@List.append_assoc.{u}
abbrev lk.{u}:=@List.getElem?_append_right.{u}
abbrev gH.{u}:=@List.length_set.{u}
abbrev ll.{u}:=@List.getElem?_append_left.{u}
abbrev iC.{u}:=@List.getElem?_take.{u}
abbrev hL.{u}:=@List.all_eq_true.{u}
abbrev ft:=@Nat.add_mul
abbrev hY.{u}:=@List.length_drop.{u}
abbrev iS.{u}:=@List.getElem?_drop.{u}
abbrev lM.{u}:=@List.drop_eq_getElem_cons.{u}
abbrev mm.{u}:=@Array.getElem?_eq_some_iff.{u}
abbrev oJ.{u}:=@List.eq_nil_of_length_eq_zero.{u}
abbrev lN.{u}:=@List.getElem?_set_self.{u}
abbrev lO.{u}:=@List.take_of_length_le.{u}
abbrev jj.{u}:=@List.append_nil.{u}
abbrev jk:=@Bool.eq_iff_iff
abbrev jl.{u,v}:=@List.map_append.{u,v}
abbrev mX.{u}:=@List.drop_eq_nil_of_le.{u}
abbrev ic:=@Bool.true_and
abbrev mY.{u}:=@List.mem_iff_getElem?.{u}
abbrev kA.{u}:=@List.any_eq_true.{u}
abbrev lP:=@Nat.lt_of_lt_of_le
abbrev nK.{u}:=@List.getElem?_of_mem.{u}
abbrev iD:=@Nat.le_trans
abbrev oK.{u}:=@List.getElem?_set_ne.{u}
abbrev jC:=@Nat.zero_mul
abbrev iT:=@Int.le_refl
abbrev p6.{u}:=@List.set_append_right.{u}
abbrev nL.{u}:=@List.all_eq_false.{u}
abbrev uB.{u}:=@Array.getD_eq_getD_getElem?.{u}
abbrev wQ.{u}:=@List.take_append_of_le_length.{u}
abbrev nM.{u}:=@List.length_cons.{u}
abbrev mn:=@Bool.and_false
abbrev wR.{u}:=@Array.getElem?_setIfInBounds.{u}
abbrev q0.{u}:=@List.mem_append_left.{u}
abbrev pr.{u}:=@List.drop_length.{u}
abbrev q1.{u}:=@List.mem_singleton.{u}
abbrev sj.{u}:=@Array.length_toList.{u}
abbrev uC.{u}:=@List.mem_append_right.{u}
abbrev sk.{u,v}:=@List.flatMap_append.{u,v}
abbrev uD.{u}:=@List.length_singleton.{u}
abbrev sl.{u}:=@List.drop_set_of_lt.{u}
abbrev p7:=@Nat.lt_succ_self
abbrev oL:=@Bool.and_assoc
abbrev wS.{u}:=@List.getElem?_replicate.{u}
abbrev zE.{u}:=@List.mem_or_eq_of_mem_set.{u}
abbrev wT.{u}:=@Array.getElem?_toList.{u}
abbrev p8:=@Nat.mul_le_mul
abbrev uE.{u}:=@List.pairwise_cons.{u}
abbrev sn:=@Bool.and_eq_true
abbrev zF.{u}:=@List.length_eq_one_iff.{u}
abbrev Dd.{u}:=@List.exists_mem_of_ne_nil.{u}
abbrev q3:=@Int.mul_nonneg
abbrev sd:=@Nat.not_lt_zero
abbrev pq:=@Nat.sub_self
abbrev zw:=@Nat.div_lt_iff_lt_mul
abbrev zx.{u}:=@List.getElem?_eq_none.{u}
abbrev zy.{u}:=@List.take_append_drop.{u}
abbrev se:=@List.range_succ
abbrev Da.{u}:=@List.length_eq_zero_iff.{u}
abbrev Ic.{u}:=@List.mem_zipIdx_iff_getElem?.{u}
abbrev sf.{u}:=@List.drop_zero.{u}
abbrev wN:=@Nat.lt_of_not_le
abbrev sg:=@Nat.add_assoc
abbrev zz.{u}:=@List.mem_replicate.{u}
abbrev Db.{u}:=@List.length_replicate.{u}
abbrev zA.{u}:=@List.filter_append.{u}
abbrev si.{u,v}:=@List.map_cons.{u,v}
abbrev Ou.{u}:=@List.findIdx?_eq_some_iff_getElem.{u}
abbrev uy:=@List.mem_range
abbrev uz:=@Int.mul_le_mul
abbrev zB.{u}:=@List.flatten_cons.{u}
abbrev wO.{u}:=@List.nil_append.{u}
abbrev wP.{u}:=@List.any_append.{u}
abbrev zC.{u,v}:=@Array.toList_map.{u,v}
abbrev Ov.{u}:=@List.drop_append_of_le_length.{u}
abbrev Dc.{u}:=@List.set_cons_zero.{u}
abbrev uA:=@Nat.add_zero
abbrev zD.{u,v}:=@List.foldl_cons.{u,v}
abbrev wU.{u,v}:=@List.map_take.{u,v}
abbrev De.{u}:=@List.cons_append.{u}
abbrev Df.{u,v}:=@List.mem_flatMap.{u,v}
abbrev uF:=@Nat.zero_le
abbrev Ig:=@Int.toNat_of_nonneg
abbrev Ih.{u,v}:=@List.map_congr_left.{u,v}
abbrev Ii.{u,v,w}:=@List.length_zipWith.{u,v,w}
inductive T where
  |bool (b:Bool)
  |int (k:jT) (n:Int)
  |str (s:List UInt8)
  |bX (rows:List (List T))
  |hd
  |fF
  |hc
  |p0
  |err
  deriving Inhabited
inductive V where
  |t (x:T)
  |agg (cs:List V)
  |dB (vs:List V)
  |ref (id off:Nat)
  |bc (cells:List T)
  |bE (id g_ s_ off len:Nat)
  |c' (id g_ s_ i off:Nat)
  |fn (f:fQ) (anB:List V)
  |d'
  deriving Inhabited
structure ez where
  ty:bM
  size:Nat
  rS:List (Nat×Nat)
def xN:List (Nat×Nat)->Nat->Option Nat
  | [],_=>al
  |p::l,j=>bif cP p.1 j then Y p.2 else xN l j
def ez.fc(d:ez)(j:Nat):Option Nat:=xN d.rS j
def amC:ez:=⟨0,0,[]⟩
def ba(Γ:List ez)(m:Nat):ez:=Γ.getD m amC
inductive E where
  |cells (cs:List V)
  |arr (ty:bM) (g_ s_:Nat) (rows:List (List T))
  |bn (Γ:List ez) (m g_:Nat) (rows:List (List T)) (open_:List (Nat×Nat×V))
structure Map where
  f:Nat->Option (Option Nat×Nat)
  n:Nat->Nat->Prop
instance:CoeFun Map (λ_=>Nat->Option (Option Nat×Nat)):=⟨Map.f⟩
def At(a:Map)(c b:Nat):Prop:=(∃g,a c=Y (Y b,g))\/a.n c b
def fa(e a:Map):Prop:= ∀id q g,e id=Y (q,g)->a id=Y (q,g)\/(1<=g/\ ∃h c,a id=Y (h,c)/\g<c)
theorem fa.refl(β:Map):fa β β:=λ_ _ _ h=> .inl h
variable {β G β':Map}{e:E}
theorem fa.of(h: ∀id x,β id=Y x->G id=Y x):fa β G:=λ_ _ _ a=> .inl (h _ _ a)
structure Ext (X:Nat->Prop) (w bZ:bY):Prop where
  os:bZ.os=w.os
  tape:bZ.tape=w.tape
  output:bZ.output=w.output
  size:w.heap.size<=bZ.heap.size
  keep: ∀b,b<w.heap.size-> ¬X b->bZ.heap[b]? =w.heap[b]?
theorem Ext.refl(X:Nat->Prop)(w:bY):Ext X w w:=⟨rfl,rfl,rfl,dV _,λ_ _ _=>rfl⟩
theorem Ext.trans(h:Ext X a b)(k:Ext X b c):Ext X a c:=
  ⟨k.os.trans h.os,k.tape.trans h.tape,k.output.trans h.output,iD h.size k.size,
   λi e l=>(k.keep i (lP e h.size) l).trans (h.keep i e l)⟩
theorem Ext.trans'(h:Ext X a b)(k:Ext (λi=> ¬(i<a.heap.size/\ ¬X i)) b c):Ext X a c:=
  ⟨k.os.trans h.os,k.tape.trans h.tape,k.output.trans h.output,iD h.size k.size,
   λi e l=>(k.keep i (lP e h.size) λm=>m ⟨e,l⟩).trans (h.keep i e l)⟩
theorem Ext.weaken(h:Ext X a b)(e: ∀i,i<a.heap.size->X i->W i):Ext W a b:=
  ⟨h.os,h.tape,h.output,h.size,λi c k=>h.keep i c λl=>k (e i c l)⟩
theorem Ext.drew(X:Nat->Prop)(w:bY):Ext X w w.drew:=⟨rfl,rfl,rfl,dV _,λ_ _ _=>rfl⟩
theorem heap_alloc(w:bY)(o:Obj)(k:Nat)(h:k<w.heap.size):(w.alloc o).heap[k]? =w.heap[k]? :=by
  show(w.heap.push o)[k]? =_
  grind
theorem kY(w:bY)(o:Obj):(w.alloc o).heap[w.heap.size]? =Y o:=by show(w.heap.push o)[w.heap.size]? =_;simp
theorem Ext.alloc(X:Nat->Prop)(w:bY)(o:Obj):Ext X w (w.alloc o):=
  ⟨rfl,rfl,rfl,aZ,λk a _=>heap_alloc _ _ _ a⟩
theorem tl{b:Nat}(h:a.heap[b]? =w.heap[b]?):a.shape? b=w.shape? b:=by unfold iV;rw[h]
def Shaped(_β:Map)(w a:bY):Prop:= ∀b,b<w.heap.size->a.shape? b=w.shape? b
theorem Shaped.refl(β:Map)(w:bY):Shaped β w w:=λ_ _=>rfl
theorem vY(e:Ext (λ_=>False) w bZ):Shaped G w bZ:=λb a=>tl (e.keep b a λh=>h)
theorem CM(w:bY)(a:Addr)(u:bm)(k:Nat)(h:k≠a.block):(w.setCell a u).heap[k]? =w.heap[k]? :=by
  simp only[World.setCell,Array.getElem?_modify]
  grind
theorem Xx(w:bY)(b o:Nat)(u:bm)(c:Array bm)(a:bM)(e:Nat×Nat)(h:w.heap[b]? =Y (.cells c a e)):
    (w.setCell ⟨b,o,al⟩ u).heap[b]? =Y (.cells (c.setIfInBounds o u) a e):=by simp[World.setCell,Array.getElem?_modify,h]
theorem aay(w:bY)(a:Addr)(u:bm)(b:Nat):(w.setCell a u).shape? b=w.shape? b:=by
  unfold iV;by_cases h:b=a.block
  · subst h;simp only[World.setCell,Array.getElem?_modify,if_true]
    grind
  · rw[CM _ _ _ _ h]
theorem Ext.setCell(w:bY)(a:Addr)(u:bm)(h:X a.block):Ext X w (w.setCell a u):=
  ⟨rfl,rfl,rfl,aZ,λk _ c=>CM _ _ _ _ λe=>c (e▸h)⟩
theorem cell_of_heap{a:Addr}(h:b.heap[a.block]? =w.heap[a.block]?):b.cell? a=w.cell? a:=by unfold World.cell?;rw[h]
inductive ei (w:bY) (X:Nat->Prop):T->bm->Prop where
  |bool (b:Bool):ei w X (.bool b) (.bool b)
  |int (k:jT) (n:Int):ei w X (.int k n) (.int k n)
  |str (l:List UInt8):ei w X (.str l) (.string ⟨l.toArray⟩)
  |iq (a:Option Addr) (cap:Nat):ei w X (.bX []) (.slice a 0 cap)
  |bX (rows:List (List T)) (b off s_ cap:Nat) (f:Nat->Nat->bm) (br:b<w.heap.size) (iy: ¬X b) (GJ:U rows<=cap)
      (jc: ∀row,row∈rows->U row=s_)
      (ch: ∀i j,i<U rows->j<s_->w.cell? ⟨b,off+i*s_+j,al⟩=Y (f i j))
      (cC: ∀(i j:Nat) (row:List T) (x:T),rows[i]? =Y row->row[j]? =Y x->ei w X x (f i j)):
      ei w X (.bX rows) (.slice (Y ⟨b,off,al⟩) (U rows) cap)
  |hd:ei w X .hd (.slice al 0 0)
  |fF:ei w X .fF (.pointer al)
  |hc:ei w X .hc .nilIface
  |p0:ei w X .p0 .nilFunc
  |err (t:bM) (v:bm):ei w X .err (.iface t v)
theorem ei.mono{x:T}(h:ei w X x v)(e:Ext X w c)(C: ∀b,b<w.heap.size->W b->X b):ei c W x v:=by
  induction h with
  |bool b=>exact .bool b
  |int k n=>exact .int k n
  |str l=>exact .str l
  |iq a m=>exact .iq a m
  |bX o b z q m f A r y B F _ G=>
    exact .bX o b z q m f (lP A e.size) (λh=>r (C b A h)) y B
      (λi j K L=>by rw[cell_of_heap (w:=w) (e.keep b A r)];exact F i j K L) (λi j row x Q R=>G i j row x Q R)
  |hd=>exact .hd
  |fF=>exact .fF
  |hc=>exact .hc
  |p0=>exact .p0
  |err t v=>exact .err t v
inductive bI (β:Map) (w:bY) (X:Nat->Prop):V->bm->Prop where
  |t (x:T) (v:bm):ei w X x v->bI β w X (.t x) v
  |agg (cs:List V) (us:Array bm) (dm:us.size=U cs) (h: ∀(i:Nat) c u,cs[i]? =Y c->us[i]? =Y u->bI β w X c u):bI β w X (.agg cs) (.agg us)
  |dB (cs:List V) (us:Array bm) (dm:us.size=U cs) (h: ∀(i:Nat) c u,cs[i]? =Y c->us[i]? =Y u->bI β w X c u):bI β w X (.dB cs) (.tuple us)
  |ref (id off b:Nat) (br:β id=Y (Y b,0)):bI β w X (.ref id off) (.pointer (Y ⟨b,off,al⟩))
  |bc (cells:List T) (b off:Nat) (f:Nat->bm) (br:b<w.heap.size) (iy: ¬X b)
      (ch: ∀j,j<U cells->w.cell? ⟨b,off+j,al⟩=Y (f j))
      (cC: ∀(j:Nat) (x:T),cells[j]? =Y x->ei w X x (f j)):bI β w X (.bc cells) (.pointer (Y ⟨b,off,al⟩))
  |bE (id g_ s_ off len cap b n:Nat) (ty:bM) (b9:1<=g_) (br:β id=Y (Y b,g_)) (hw:b<w.heap.size) (hs:w.shape? b=Y (ty,n)) (dc:(off+cap)*s_=n) (dm:len<=cap) (hm:cap<=maxLen):
      bI β w X (.bE id g_ s_ off len) (.slice (Y ⟨b,off*s_,al⟩) len cap)
  |jh (id g_ s_:Nat) (b9:1<=g_) (br:β id=Y (al,g_)):bI β w X (.bE id g_ s_ 0 0) (.slice al 0 0)
  |mc (id g_ s_ off len:Nat) (v:bm) (q:Option Nat) (g:Nat) (eI:v.oneCell'=I) (br:β id=Y (q,g)) (b9:g_<g):bI β w X (.bE id g_ s_ off len) v
  |c' (id g_ s_ i off b:Nat) (b9:1<=g_) (br:β id=Y (Y b,g_)):bI β w X (.c' id g_ s_ i off) (.pointer (Y ⟨b,i*s_+off,al⟩))
  |nx (id g_ s_ i off:Nat) (v:bm) (q:Option Nat) (g:Nat) (eI:v.oneCell'=I) (br:β id=Y (q,g)) (b9:g_<g):bI β w X (.c' id g_ s_ i off) v
  |fn (f:fQ) (cs:List V) (us:Array bm) (dm:us.size=U cs) (h: ∀(i:Nat) c u,cs[i]? =Y c->us[i]? =Y u->bI β w X c u):
      bI β w X (.fn f cs) (.func (.func f) #[] us)
  |d' (v:bm):bI β w X .d' v
theorem bI.mono{x:V}(h:bI β w X x v)(e:Ext X w a)(K: ∀b,b<w.heap.size->W b->X b)
    (o:fa β β') (L:Shaped β w a):bI β' a W x v:=by
  induction h with
  |t x v h=>exact .t x v (h.mono e K)
  |agg cs us B _ C=>exact .agg cs us B C
  |dB cs us B _ C=>exact .dB cs us B C
  |ref id k b l=>
    rcases o _ _ _ l with h|⟨h,_⟩
    · exact .ref id k b h
    · omega
  |bc cells b k f l F p s=>
    exact .bc cells b k f (lP l e.size) (λh=>F (K b l h)) (λj u=>by rw[cell_of_heap (w:=w) (e.keep b l F)];exact p j u)
      (λj x h=>(s j x h).mono e K)
  |bE id g_ c k r Q b n ty y l R M N B S=>
    rcases o _ _ _ l with h|⟨_,z,A,h,m⟩
    · exact .bE id g_ c k r Q b n ty y h (lP R e.size) (by rw[L b R];exact M) N B S
    · exact .mc id g_ c k r _ z A rfl h m
  |jh id g_ c y l=>
    rcases o _ _ _ l with h|⟨_,z,A,h,m⟩
    · exact .jh id g_ c y h
    · exact .mc id g_ c 0 0 _ z A rfl h m
  |mc id g_ c k r v q g G l y=>
    rcases o _ _ _ l with h|⟨_,z,A,h,m⟩
    · exact .mc id g_ c k r v q g G h y
    · exact .mc id g_ c k r v z A G h O
  |c' id g_ c i k b y l=>
    rcases o _ _ _ l with h|⟨_,z,A,h,m⟩
    · exact .c' id g_ c i k b y h
    · exact .nx id g_ c i k _ z A rfl h m
  |nx id g_ c i k v q g G l y=>
    rcases o _ _ _ l with h|⟨_,z,A,h,m⟩
    · exact .nx id g_ c i k v q g G h y
    · exact .nx id g_ c i k v z A G h O
  |fn f cs us B _ C=>exact .fn f cs us B C
  |d' v=>exact .d' v
inductive iX (Γ:List ez) (w:bY) (X:Nat->Prop):Option Nat->T->bm->(Nat->Prop)->Prop where
  |ly (x:T) (v:bm) (N:Nat->Prop) (h:ei w X x v) (gV: ∀c,¬N c):iX Γ w X al x v N
  |nil (m:Nat) (N:Nat->Prop) (gV: ∀c,¬N c):iX Γ w X (Y m) (.bX []) (.slice al 0 0) N
  |own (m:Nat) (rows:List (List T)) (b cap:Nat) (us:Array bm) (B:Nat->Nat->Nat->Prop) (N:Nat->Prop)
      (hw:w.heap[b]? =Y (.cells us (ba Γ m).ty (0,0))) (hs:us.size=cap*(ba Γ m).size) (hm:cap<=maxLen) (dm:U rows<=cap)
      (jc: ∀row,row∈rows->U row=(ba Γ m).size)
      (cC: ∀(i j:Nat) (row:List T) (x:T) (u:bm),rows[i]? =Y row->row[j]? =Y x->us[i*(ba Γ m).size+j]? =Y u->iX Γ w X ((ba Γ m).fc j) x u (B i j))
      (gU: ∀i j c,B i j c->i<U rows/\j<(ba Γ m).size/\c≠b)
      (cN: ∀i j ju fx c,B i j c->B ju fx c->i=ju/\j=fx)
      (gV: ∀c,N c↔c=b\/ ∃i j,B i j c):
      iX Γ w X (Y m) (.bX rows) (.slice (Y ⟨b,0,al⟩) (U rows) cap) N
theorem iX.mono{S:List ez}{x:T}{N:Nat->Prop}(h:iX S w X m x v N)(e:Ext X w a)(y: ∀b,b<w.heap.size->W b->X b)
    (r: ∀b,N b->a.heap[b]? =w.heap[b]?):iX S a W m x v N:=by
  induction h with
  |ly x v N h k=>exact .ly x v N (h.mono e y) k
  |nil m N k=>exact .nil m N k
  |own m l b o us B N z n A C q p F G k K=>
    refine .own m l b o us B N ?_ n A C q (λi j row x u L Q R=>K i j row x u L Q R λc f=>r c ((k c).2 (.inr ⟨i,j,f⟩))) F G k;rw[r b ((k b).2 (.inl rfl))];exact z
theorem iX.iff{S:List ez}{x:T}{N:Nat->Prop}(h:iX S w X m x v N)(a: ∀c,W c↔N c):iX S w X m x v W:=by
  cases h with
  |ly _ _ _ h e=>exact .ly _ _ _ h (λc k=>e c ((a c).1 k))
  |nil _ _ e=>exact .nil _ _ (λc k=>e c ((a c).1 k))
  |own m i b l o B _ q r y z n A C F e=>exact .own m i b l o B _ q r y z n A C F λc=>(a c).trans (e c)
theorem iX.lt{S:List ez}{x:T}{N:Nat->Prop}(h:iX S w X m x v N): ∀c,N c->c<w.heap.size:=by
  induction h with
  |ly _ _ _ _ a=>exact λc e=>bu e (a c)
  |nil _ _ a=>exact λc e=>bu e (a c)
  |own m k b l r B N y z G K n L A Q a C=>
    intro c e;rcases(a c).1 e with rfl|⟨i,j,o⟩
    · exact(mm.1 y).1
    · obtain⟨q,R,_⟩:=A i j c o;have W:=n _ (gd q);have F:i*(ba S m).size+j<r.size:=by
        rw[z]
        have:(i+1)*(ba S m).size<=l*(ba S m).size:=fj _ O;rw[ft] at this;omega
      exact C i j _ (k[i][j]' O) _ (bO q) (bO O) (jQ F) c o
theorem iX.CT{S:List ez}{x:T}{N:Nat->Prop}(h:iX S w X m x v N)(F: ∀b,W b->X b)(l: ∀b,N b-> ¬W b):ei w W x v:=by
  induction h with
  |ly x v N h r=>exact h.mono (Ext.refl _ _) (λb _=>F b)
  |nil m N r=>exact .iq _ _
  |own m n b e k B N z A f G o p s t r K=>
    refine .bX n b 0 (ba S m).size e (λi j=>k.getD (i*(ba S m).size+j) undef) (mm.1 z).1 (l b ((r b).2 (.inl rfl))) G o (λi j aO L=>?_) λi j q x y C=>?_
    · have a:i*(ba S m).size+j<k.size:=by
        rw[A]
        have:(i+1)*(ba S m).size<=e*(ba S m).size:=fj _ O;rw[ft] at this;omega
      simp[World.cell?,z,a]
    · have aO:=(cI.1 y).1;have L:j<(ba S m).size:=by rw[<-o q (ca y)];exact(cI.1 C).1
      have a:i*(ba S m).size+j<k.size:=by
        rw[A]
        have:(i+1)*(ba S m).size<=e*(ba S m).size:=fj _ O;rw[ft] at this;omega
      have Q:k.getD (i*(ba S m).size+j) undef=k[i*(ba S m).size+j]:=by simp[a]
      show ei w W x (k.getD (i*(ba S m).size+j) undef);rw[Q];exact K i j q x _ y C (jQ a) λc R=>l c ((r c).2 (.inr ⟨i,j,R⟩))
def Cell(a:List ez)(m:Nat)(e:List (Nat×Nat×V))(β:Map)(w:bY)(X:Nat->Prop)(i j:Nat)(x:T)(u:bm)(N:Nat->Prop):Prop:=
  (∀v,(i,j,v)∈e->bI β w X v u/\ ∀c,¬N c)/\((∀v,(i,j,v)∉e)->iX a w X ((ba a m).fc j) x u N)
theorem Cell.mono{S:List ez}{m:Nat}{c:List (Nat×Nat×V)}{x:T}{N:Nat->Prop}(h:Cell S m c β w X i j x u N)
    (e:Ext X w a) (o: ∀b,b<w.heap.size->W b->X b) (k:fa β β') (l:Shaped β w a) (n: ∀b,N b->a.heap[b]? =w.heap[b]?):Cell S m c β' a W i j x u N:=
  ⟨λv q=>⟨(h.1 v q).1.mono e o k l,(h.1 v q).2⟩,λr=>(h.2 r).mono e o n⟩
theorem Cell.none{S:List ez}{m:Nat}{x:T}{N:Nat->Prop}(h:Cell S m [] β w X i j x u N):iX S w X ((ba S m).fc j) x u N:=h.2 λ_ a=>List.not_mem_nil a
theorem Cell.of{S:List ez}{m:Nat}{x:T}{N:Nat->Prop}(h:iX S w X ((ba S m).fc j) x u N):Cell S m [] β w X i j x u N:=⟨λ_ a=>bu a List.not_mem_nil,λ_=>h⟩
def dJ(β:Map)(w:bY)(X:Nat->Prop)(l:Nat):E->Prop
  | .cells cs=> ∃(b:Nat) (h:Array bm) (ty:bM),β l=Y (Y b,0)/\w.heap[b]? =Y (.cells h ty (0,0))/\h.size=U cs/\
      ∀(i:Nat) c u,cs[i]? =Y c->h[i]? =Y u->bI β w X c u
  | .arr ty g_ k a=>1<=g_/\((β l=Y (al,g_)/\a=[])\/ ∃(b:Nat) (h:Array bm),β l=Y (Y b,g_)/\w.heap[b]? =Y (.cells h ty (0,0))/\
      U a*k<=h.size/\(∀e,e∈a->U e=k)/\
      ∀(i j:Nat) (e:List T) (x:T) (u:bm),a[i]? =Y e->e[j]? =Y x->h[i*k+j]? =Y u->ei w X x u)
  | .bn o m g_ a y=>1<=g_/\((β l=Y (al,g_)/\a=[]/\(∀c,¬β.n l c))\/ ∃(b:Nat) (h:Array bm) (B:Nat->Nat->Nat->Prop),β l=Y (Y b,g_)/\
      w.heap[b]? =Y (.cells h (ba o m).ty (0,0))/\(U a)*(ba o m).size<=h.size/\(∀e,e∈a->U e=(ba o m).size)/\
      (∀(i j:Nat) (e:List T) (x:T) (u:bm),a[i]? =Y e->e[j]? =Y x->h[i*(ba o m).size+j]? =Y u->Cell o m y β w X i j x u (B i j))/\
      (∀i j c,B i j c->i<U a/\j<(ba o m).size/\c≠b)/\(∀i j q r c,B i j c->B q r c->i=q/\j=r)/\ ∀c,β.n l c↔ ∃i j,B i j c)
theorem dJ.mono{T:E}(h:dJ β w X k T)(e:Ext X w a)(K: ∀b,b<w.heap.size->W b->X b)
    (y:fa β β') (q: ∀x,β k=Y x->β' k=Y x) (z:Shaped β w a) (l: ∀b,At β k b->a.heap[b]? =w.heap[b]?) (Q: ∀b,β'.n k b↔β.n k b:=by exact λ_=>Iff.rfl):dJ β' a W k T:=by
  cases T with
  |cells cs=>
    obtain⟨b,us,ty,o,r,A,C⟩:=h;exact⟨b,us,ty,q _ o,by rw[l b (.inl ⟨_,o⟩)];exact r,A,λi c u F p=>(C i c u F p).mono e K y z⟩
  |arr ty g_ R G=>
    refine⟨h.1,?_⟩;rcases h.2 with ⟨o,r⟩|⟨b,us,o,r,A,C,L⟩
    · exact .inl ⟨q _ o,r⟩
    · exact .inr ⟨b,us,q _ o,by rw[l b (.inl ⟨_,o⟩)];exact r,A,C,λi j row x u aW a2 a3=>(L i j row x u aW a2 a3).mono e K⟩
  |bn M m g_ G N=>
    refine⟨h.1,?_⟩;rcases h.2 with ⟨o,r,s⟩|⟨b,us,B,o,r,A,C,L,t,v,f⟩
    · exact .inl ⟨q _ o,r,λc F=>s c ((Q c).1 F)⟩
    · refine .inr ⟨b,us,B,q _ o,by rw[l b (.inl ⟨_,o⟩)];exact r,A,C,λi j row x u aW a2 a3=>(L i j row x u aW a2 a3).mono e K y z λc F=>l c (.inr ((f c).2 ⟨i,j,F⟩)),t,v,λc=>(Q c).trans (f c)⟩
def Map.put(a:Map)(d:Nat)(x:Option (Option Nat×Nat)):Map:=⟨λi=>bif cP i d then x else a i,a.n⟩
theorem d5(a:Map)(d:Nat)(x:Option (Option Nat×Nat)):a.put d x d=x:=by simp[Map.put]
theorem gv(a:Map)(d i:Nat)(x:Option (Option Nat×Nat))(h:i≠d):a.put d x i=a i:=by
  have:cP i d=ao:=by cases c:cP i d with
    |false=>rfl
    |true=>exact bu (eg c) h
  simp[Map.put,this]
def bw{k:Type}(f:Nat->k)(d:Nat)(v:k):Nat->k:=λi=>bif cP i d then v else f i
theorem c6{k:Type}(f:Nat->k)(d:Nat)(v:k):bw f d v d=v:=by simp[bw]
theorem cY{k:Type}(f:Nat->k)(d i:Nat)(v:k)(h:i≠d):bw f d v i=f i:=by
  have:cP i d=ao:=by cases a:cP i d with
    |false=>rfl
    |true=>exact bu (eg a) h
  simp[bw,this]
structure S where
  t:Nat->V
  H:Nat->Option E
  u:Nat->Bool
structure gC where
  Cw:Nat
  W:bY
def gC.ok(G:gC)(w:bY):Prop:=G.Cw<=w.heap.size/\ ∀b,b<G.Cw->w.heap[b]? =G.W.heap[b]?
structure Ctx where
  P:ee
  G:gC
  w0:bY
  X:Nat->Prop
  e5:Nat
  hq:Map
  nt:Nat
def Ctx.M(K:Ctx)(b:Nat):Prop:= ∃id,id<K.e5/\At K.hq id b
def own(K:Ctx)(β:Map)(H:Nat->Option E)(b:Nat):Prop:=K.X b\/ ∃id,H id≠al/\At β id b
def mz(n:Nat)(a c:Map)(i:Nat):Prop:= ∀id,id<n->(c id=a id)\/ ∃q g e h,a id=Y (q,g)/\1<=g/\c id=Y (e,h)/\g<h/\ ∀b,e=Y b->q=Y b\/i<=b
theorem mz.refl(n:Nat)(β:Map)(sz:Nat):mz n β β sz:=λ_ _=> .inl rfl
theorem mz.keep{a V:Map}(h:mz n G a sz)(c: ∀id,id<n->V id=a id):mz n G V sz:=λid hid=>by rw[c id hid];exact h id hid
theorem mz.more{V a:Map}(h:mz n V a sz)(m: ∀id,id<n->(G id=a id)\/ ∃q g i k,a id=Y (q,g)/\1<=g/\G id=Y (i,k)/\g<k/\ ∀b,i=Y b->q=Y b\/sz<=b):mz n V G sz:=by
  intro id hid;rcases m id hid with e|⟨q,g,i,k,aW,a2,a3,a4,a5⟩
  · rw[e];exact h id hid
  · rcases h id hid with e|⟨o,r,A,B,w,x,l,C,y⟩
    · exact .inr ⟨q,g,i,k,by rw[<-e];exact aW,a2,a3,a4,a5⟩
    · rw[aW] at l;cases l;exact .inr ⟨o,r,i,k,w,x,a3,O,λb z=>by
        rcases a5 b z with c|c
        · exact y b c
        · exact .inr c⟩
theorem mz.grow{V a:Map}(h:mz n V a sz)(k g_:Nat)(q e:Option Nat)(m:a k=Y (q,g_))(x:1<=g_)(o:G k=Y (e,g_+1))(c: ∀b,e=Y b->q=Y b\/sz<=b)
    (y: ∀id,id≠k->G id=a id):mz n V G sz:=by
  intro id hid;by_cases r:id=k
  · subst r;rcases h id hid with i|⟨z,A,K,L,i,B,w,Q,C⟩
    · exact .inr ⟨q,g_,e,g_+1,by rw[<-i];exact m,x,o,p7 _,c⟩
    · rw[m] at w;cases w;exact .inr ⟨z,A,e,g_+1,i,B,o,O,λb F=>by
        rcases c b F with l|l
        · exact C b l
        · exact .inr l⟩
  · rw[y id r];exact h id hid
theorem Shaped.ext(h:Shaped G a w)(c:a.heap.size<=w.heap.size)(e:Ext (λ_=>False) w bZ):Shaped G a bZ:=
  λb i=>(tl (e.keep b (lP i c) λh=>h)).trans (h b i)
structure Rel (K:Ctx) (β:Map) (s:S) (a:Act) (w:bY):Prop where
  ext:Ext K.M K.w0 w
  tn:K.G.ok K.w0
  tU: ∀b,K.M b->K.G.Cw<=b
  mu: ∀b,K.X b->b<K.w0.heap.size/\ ¬K.M b
  base:mz K.e5 K.hq β K.w0.heap.size
  j':Shaped K.hq K.w0 w
  low: ∀id,id<K.e5->s.u id=I
  fw: ∀id,s.u id=ao->β id=al
  fS: ∀id b,s.u id=ao-> ¬β.n id b
  yN: ∀id k9 b,At K.hq id b->At K.hq k9 b->id=k9
  inj: ∀id k9 b,At β id b->At β k9 b->id=k9
  fresh: ∀id b,At β id b->(K.M b\/K.w0.heap.size<=b)/\b<w.heap.size
  heap: ∀id e,s.H id=Y e->s.u id=I/\dJ β w (own K β s.H) id e
  eE: ∀i,bI β w (own K β s.H) (s.t i) (a.tmps.getD i undef)
  nt:a.tmps.size=K.nt
  defers:a.defers=[]
theorem acD{G:gC}(h:G.ok w)(e:Ext X w bZ)(c: ∀b,X b->G.Cw<=b):G.ok bZ:=
  ⟨iD h.1 e.size,λb a=>(e.keep b (lP a h.1) λi=>by have:=c b i;omega).trans (h.2 b a)⟩
variable {K:Ctx}
theorem Rel.GG{s:S}{a:Act}(h:Rel K β s a w):K.G.ok w:=acD h.tn h.ext h.tU
mutual
def V.ok(u:Nat->Bool):V->Bool
  | .ref id _=>u id
  | .bE id _ _ _ _=>u id
  | .c' id _ _ _ _=>u id
  | .agg cs=>V.hK u cs
  | .dB cs=>V.hK u cs
  | .fn _ cs=>V.hK u cs
  | .t _=>I
  | .bc _=>I
  | .d'=>I
def V.hK(u:Nat->Bool):List V->Bool
  | []=>I
  |c::cs=>V.ok u c&&V.hK u cs
end
theorem zN{u:Nat->Bool}: ∀{cs:List V} {i:Nat} {c:V},V.hK u cs=I->cs[i]? =Y c->V.ok u c=I
  | [],_,_,_,h=>by simp at h
  |c::cs,0,_,h,a=>by simp at a;subst a;simp[V.hK] at h;exact h.1
  |c::cs,i+1,_,h,a=>by simp at a;simp[V.hK] at h;exact zN h.2 a
theorem bI.under{u:Nat->Bool}{x:V}(h:bI β w X x v)(F: ∀b,W b->X b)
    (l: ∀id,u id=I->β' id=β id) (r:x.ok u=I):bI β' w W x v:=by
  induction h with
  |t x v h=>exact .t x v (h.mono (Ext.refl _ _) λb _=>F b)
  |agg cs A k _ B=>exact .agg cs A k (λi c u o C=>B i c u o C (zN (by simpa[V.ok] using r) o))
  |dB cs A k _ B=>exact .dB cs A k (λi c u o C=>B i c u o C (zN (by simpa[V.ok] using r) o))
  |ref id e b n=>exact .ref id e b (by rw[l id (by simpa[V.ok] using r)];exact n)
  |bc cells b e f n G o Q=>exact .bc cells b e f n (λh=>G (F _ h)) o (λj x h=>(Q j x h).mono (Ext.refl _ _) λb _=>F b)
  |bE id g_ a e z K b m ty y n R p s k M=>exact .bE id g_ a e z K b m ty y (by rw[l id (by simpa[V.ok] using r)];exact n) R p s k M
  |jh id g_ a y n=>exact .jh id g_ a y (by rw[l id (by simpa[V.ok] using r)];exact n)
  |mc id g_ a e z v q g L n y=>exact .mc id g_ a e z v q g L (by rw[l id (by simpa[V.ok] using r)];exact n) y
  |c' id g_ a i e b y n=>exact .c' id g_ a i e b y (by rw[l id (by simpa[V.ok] using r)];exact n)
  |nx id g_ a i e v q g L n y=>exact .nx id g_ a i e v q g L (by rw[l id (by simpa[V.ok] using r)];exact n) y
  |fn f cs A k _ B=>exact .fn f cs A k (λi c u o C=>B i c u o C (zN (by simpa[V.ok] using r) o))
  |d' v=>exact .d' v
def sV(u:Nat->Bool):List (Nat×Nat×V)->Bool
  | []=>I
  |h::a=>h.2.2.ok u&&sV u a
theorem KF{u:Nat->Bool}: ∀{a:List (Nat×Nat×V)} {i j:Nat} {v:V},sV u a=I->(i,j,v)∈a->v.ok u=I
  | [],_,_,_,_,h=>by cases h
  |h::a,i,j,v,c,hm=>by
    simp only[sV,cJ] at c;rcases eN.1 hm with rfl|hm
    · exact c.1
    · exact KF c.2 hm
def E.ok(u:Nat->Bool):E->Bool
  | .cells cs=>V.hK u cs
  | .arr _ _ _ _=>I
  | .bn _ _ _ _ a=>sV u a
def S.le(K:Ctx)(s s':S):Prop:= ∀β a w,Rel K β s a w-> ∃c,Rel K c s' a w
theorem S.le.refl(K:Ctx)(s:S):s.le K s:=λβ _ _ h=>⟨β,h⟩
theorem S.le.trans{a b c:S}(h:a.le K b)(k:b.le K c):a.le K c:=λβ x w i=>let ⟨e,l⟩:=h β x w i;k e x w l
def eP(v c:V):Prop:= ∀a w X u,bI a w X v u->bI a w X c u
theorem eP.refl(v:V):eP v v:=λ_ _ _ _ h=>h
theorem eP.of_eq{v fr:V}(h:v=fr):eP v fr:=h▸eP.refl v
theorem eP.nil:eP (.t .hd) (.t (.bX [])):=by intro β w X u h;cases h with|t _ _ h=>cases h;exact .t _ _ (.iq _ _)
theorem eP.d'(v:V):eP v .d':=λ_ _ _ _ _=> .d' _
theorem eP.trans{a b c:V}(h:eP a b)(k:eP b c):eP a c:=λe w X u i=>k e w X u (h e w X u i)
def ht:List V->List V->Prop
  | [],[]=>True
  |v::c,e::a=>eP v e/\ht c a
  |_,_=>False
theorem ht.refl: ∀a:List V,ht a a
  | []=>trivial
  |v::a=>⟨eP.refl v,ht.refl a⟩
theorem ht.get: ∀{c a:List V},ht c a->U c=U a/\ ∀(i:Nat) e,a[i]? =Y e-> ∃v,c[i]? =Y v/\eP v e
  | [],[],_=>⟨rfl,λi e h=>by simp at h⟩
  |v::c,e::a,h=>by
    obtain⟨l,m⟩:=ht.get h.2;refine⟨by simp[l],λi x k=>?_⟩;cases i with
    |zero=>simp at k;subst k;exact⟨v,rfl,h.1⟩
    |succ i=>simp at k;exact m i x k
  | [],_::_,h=>h.elim
  |_::_,[],h=>h.elim
theorem eP.agg{e a:List V}(h:ht e a):eP (.agg e) (.agg a):=by
  intro y w X u k;obtain⟨z,l⟩:=h.get;cases k with
  |agg _ m A n=>exact .agg _ m O λi c u o q=>by obtain⟨v,r,x⟩:=l i c o;exact x _ _ _ _ (n i v u r q)
theorem eP.dB{e a:List V}(h:ht e a):eP (.dB e) (.dB a):=by
  intro y w X u k;obtain⟨z,l⟩:=h.get;cases k with
  |dB _ m A n=>exact .dB _ m O λi c u o q=>by obtain⟨v,r,x⟩:=l i c o;exact x _ _ _ _ (n i v u r q)
def mA(e a:E):Prop:=match e,a with
  | .cells cs,.cells c=>ht cs c
  |e,a=>e=a
theorem mA.refl(e:E):mA e e:=by cases e with
  |cells cs=>exact ht.refl cs
  |arr=>rfl
  |bn=>rfl
theorem mA.CS{e':E}(h:mA e e')(k:dJ G w X n e):dJ G w X n e':=by
  cases e with
  |cells cs=>
    cases e' with
    |cells o=>
      obtain⟨K,q⟩:=ht.get h;obtain⟨b,r,ty,x,y,L,z⟩:=k;exact⟨b,r,ty,x,y,O,λi c u A B=>by obtain⟨v,C,F⟩:=q i c A;exact F _ _ _ _ (z i v u C B)⟩
    |arr=>cases h
    |bn=>cases h
  |arr ty g_ l a=>
    cases e' with
    |cells=>cases h
    |arr=>cases h;exact k
    |bn=>cases h
  |bn Q m g_ a R=>
    cases e' with
    |cells=>cases h
    |arr=>cases h
    |bn=>cases h;exact k
def re(t:Nat->V)(u:Nat->Bool)(a:Nat->V):Prop:= ∀i,a i= .d'\/(eP (t i) (a i)/\(a i).ok u=I)
def nY(H:Nat->Option E)(u:Nat->Bool)(c:Nat->Option E):Prop:= ∀id e,c id=Y e->(∃a,H id=Y a/\mA a e)/\u id=I/\e.ok u=I
def xp(u a:Nat->Bool):Prop:= ∀id,a id=I->u id=I
def pa:Nat->(Nat->Bool)->Bool
  |0,_=>I
  |n+1,u=>u n&&pa n u
theorem JA{u:Nat->Bool}: ∀{n:Nat},pa n u=I-> ∀id,id<n->u id=I
  |0,_,_,h=>bu h (sd _)
  |n+1,h,id,hid=>by
    simp[pa] at h;by_cases e:id=n
    · subst e;exact h.1
    · exact JA h.2 id O
def r':Nat->V:=λ_=> .d'
def q6:Nat->Option E:=λ_=>al
def iO:Nat->Bool:=λ_=>ao
theorem re.nil(t:Nat->V)(u:Nat->Bool):re t u r':=λ_=> .inl rfl
theorem re.bw{t:Nat->V}{u:Nat->Bool}{r:Nat->V}{d:Nat}{v:V}(h:eP (t d) v)(c:v.ok u=I)(e:re t u r):re t u (Lift.bw r d v):=by
  intro i;by_cases a:i=d
  · subst a;rw[c6];exact .inr ⟨h,c⟩
  · rw[cY _ _ _ _ a];exact e i
theorem nY.nil(H:Nat->Option E)(u:Nat->Bool):nY H u q6:=λ_ _ h=>by simp[q6] at h
theorem nY.bw{H:Nat->Option E}{u:Nat->Bool}{r:Nat->Option E}{d:Nat}(c:E)(h:H d=Y c)(l:mA c e)(m:u d=I)(n:e.ok u=I)(o:nY H u r):nY H u (Lift.bw r d (Y e)):=by
  intro i e' a;by_cases k:i=d
  · subst k;rw[c6] at a;cases a;exact⟨⟨c,h,l⟩,m,n⟩
  · rw[cY _ _ _ _ k] at a;exact o i e' a
theorem xp.nil(u:Nat->Bool):xp u iO:=λ_ h=>by simp[iO] at h
theorem xp.bw{u r:Nat->Bool}{d:Nat}(h:u d=I)(e:xp u r):xp u (Lift.bw r d I):=by
  intro i a;by_cases c:i=d
  · subst c;exact h
  · rw[cY _ _ _ _ c] at a;exact e i a
theorem dJ.under{u:Nat->Bool}(h:dJ β w X k e)(G: ∀b,W b->X b)
    (a: ∀k,u k=I->β' k=β k) (l:u k=I) (Q:e.ok u=I) (R: ∀b,β'.n k b↔β.n k b:=by exact λ_=>Iff.rfl):dJ β' w W k e:=by
  cases e with
  |cells cs=>
    obtain⟨b,y,ty,q,r,z,A⟩:=h;exact⟨b,y,ty,by rw[a k l];exact q,r,z,λi c u K p=>(A i c u K p).under G a (zN Q K)⟩
  |arr ty g_ f C=>
    refine⟨h.1,?_⟩;rcases h.2 with ⟨q,r⟩|⟨b,y,q,r,z,A,F⟩
    · exact .inl ⟨by rw[a k l];exact q,r⟩
    · exact .inr ⟨b,y,by rw[a k l];exact q,r,z,A,λi j o x u aW a2 a3=>(F i j o x u aW a2 a3).mono (Ext.refl _ _) λb _=>G b⟩
  |bn T m g_ C V=>
    refine⟨h.1,?_⟩;rcases h.2 with ⟨q,r,s⟩|⟨b,y,B,q,r,z,A,F,t,M,N⟩
    · exact .inl ⟨by rw[a k l];exact q,r,λc K=>s c ((R c).1 K)⟩
    · refine .inr ⟨b,y,B,by rw[a k l];exact q,r,z,A,λi j o x u aW a2 a3=>⟨λv L=>⟨((F i j o x u aW a2 a3).1 v L).1.under G a (KF Q L),((F i j o x u aW a2 a3).1 v L).2⟩,
        λS=>((F i j o x u aW a2 a3).2 S).mono (Ext.refl _ _) (λb _=>G b) λ_ _=>rfl⟩,t,M,λc=>(R c).trans (N c)⟩
def cut(β:Map)(u:Nat->Bool):Map:=⟨λid=>bif u id then β id else al,λid b=>u id=I/\β.n id b⟩
theorem F4{u:Nat->Bool}{b:Nat}(h:At (cut G u) i b):At G i b:=by
  rcases h with ⟨g,h⟩|h
  · refine .inl ⟨g,?_⟩;by_cases a:u i=I
    · simpa[cut,a] using h
    · simp[cut,a] at h
  · exact .inr h.2
theorem A8{u:Nat->Bool}{id:Nat}(h:u id=I):cut G u id=G id:=by simp[cut,h]
theorem JD{s s':S}(c:nY s.H s'.u s'.H): ∀b,own K (cut β s'.u) s'.H b->own K β s.H b:=by
  rintro b (h|⟨id,i,k⟩)
  · exact .inl h
  · cases a:s'.H id with
    |none=>exact bu a i
    |some e=>
      obtain⟨m,l,_⟩:=(c id e a).1;exact .inr ⟨id,by rw[l];simp,F4 k⟩
theorem Rel.cut{s s':S}{a:Act}(l:Rel K β s a w)(r:re s.t s'.u s'.t)(q:nY s.H s'.u s'.H)(n:pa K.e5 s'.u=I):Rel K (cut β s'.u) s' a w:=by
  have c:=JD (K:=K) (β:=β) q;refine {l with base:= ?_,low:=JA n,fw:= ?_,fS:= ?_,inj:= ?_,fresh:= ?_,heap:= ?_,eE:= ?_}
  · exact l.base.keep λid hid=>A8 (JA n id hid)
  · intro id hid;simp[Lift.cut,hid]
  · intro id b hid h;rw[h.1] at hid;cases hid
  · intro id o b m k;exact l.inj id o b (F4 m) (F4 k)
  · intro id b h;exact l.fresh id b (F4 h)
  · intro id e x;obtain⟨⟨y,m,n⟩,k,z⟩:=q id e x;exact⟨k,(n.CS (l.heap id y m).2).under c (λ_ h=>A8 h) k z λ_=>⟨λh=>h.2,λh=>⟨k,h⟩⟩⟩
  · intro i;rcases r i with h|⟨m,k⟩
    · rw[h];exact .d' _
    · exact(m _ _ _ _ (l.eE i)).under c (λ_ h=>A8 h) k
theorem aiD{s s':S}(a:re s.t s'.u s'.t)(c:nY s.H s'.u s'.H)(_hu:xp s.u s'.u)(e:pa K.e5 s'.u=I):s.le K s':=
  λh _ _ i=>⟨Lift.cut h s'.u,i.cut a c e⟩
def Fc:bm->V
  | .bool b=> .t (.bool b)
  | .int k n=> .t (.int k n)
  | .string s=> .t (.str s.data.toList)
  | .slice al 0 0=> .t .hd
  | .pointer al=> .t .fF
  | .nilIface=> .t .hc
  | .nilFunc=> .t .p0
  |_=> .d'
def js:bm->V
  | .agg cs=> .agg (cs.toList.map Fc)
  |v=>Fc v
def S.get(s:S):ct->V
  | .tmp t=>s.t t
  | .const v=>js v
  | .func f=> .fn f []
  | .global _=> .d'
theorem QA(a:Map)(w:bY)(X:Nat->Prop)(v:bm):bI a w X (Fc v) v:=by
  unfold Fc;split
  · exact .t _ _ (.bool _)
  · exact .t _ _ (.int _ _)
  · rename_i s;have h:=ei.str (w:=w) (X:=X) s.data.toList;exact .t _ _ (by simpa using h)
  · exact .t _ _ .hd
  · exact .t _ _ .fF
  · exact .t _ _ .hc
  · exact .t _ _ .p0
  · exact .d' _
theorem Dq(β:Map)(w:bY)(X:Nat->Prop)(v:bm):bI β w X (js v) v:=by
  unfold js;split
  · rename_i cs;exact .agg _ _ aZ (λi c u a h=>by
      simp only[List.getElem?_map,Array.getElem?_toList,Option.map_eq_some_iff] at a;obtain⟨l,e,k⟩:=a;rw[h] at e;cases e;rw[<-k];exact QA _ _ _ _)
  · exact QA _ _ _ _
def eG(β:Map)(w:bY)(X:Nat->Prop):List V->List bm->Prop
  | [],[]=>True
  |v::a,u::c=>bI β w X v u/\eG β w X a c
  |_,_=>False
theorem eG.mono{β β':Map}{w a:bY}{X W:Nat->Prop}: ∀{i:List V} {us:List bm},eG β w X i us->Ext X w a->(∀b,b<w.heap.size->W b->X b)->
    fa β β'->Shaped β w a->eG β' a W i us
  | [],[],_,_,_,_,_=>trivial
  |_::_,_::_,h,e,k,c,l=>⟨h.1.mono e k c l,eG.mono h.2 e k c l⟩
  | [],_::_,h,_,_,_,_=>h.elim
  |_::_,[],h,_,_,_,_=>h.elim
theorem eG.le: ∀{β:Map} {w:bY} {X:Nat->Prop} {c a:List V} {e:List bm},eG β w X c e->ht c a->eG β w X a e
  |_,_,_,[],[],[],_,_=>trivial
  |_,_,_,_::_,_::_,_::_,h,k=>⟨k.1 _ _ _ _ h.1,eG.le h.2 k.2⟩
  |_,_,_,[],_::_,_,_,k=>k.elim
  |_,_,_,_::_,[],_,_,k=>k.elim
  |_,_,_,[],[],_::_,h,_=>h.elim
  |_,_,_,_::_,_::_,[],h,_=>h.elim
theorem Rel.get{s:S}{a:Act}(h:Rel K β s a w)(x:ct):bI β w (own K β s.H) (s.get x) (a.eval x):=by
  cases x with
  |tmp t=>exact h.eE t
  |const v=>exact Dq _ _ _ v
  |func f=>exact .fn f [] #[] rfl (λi c u e _=>by simp at e)
  |global g=>exact .d' _
theorem Rel.qz{s:S}{a:Act}(h:Rel K β s a w): ∀c:List ct,eG β w (own K β s.H) (c.map s.get) (c.map a.eval)
  | []=>trivial
  |x::c=>⟨h.get x,h.qz c⟩
def cZ(P:ee)(H:Nat->Option E)(o:Oper)(a:List V)(v:V):Prop:=
  ∀(c:Map) (w:bY) (X:Nat->Prop) (h:ct->bm),(∀id e,H id=Y e->dJ c w X id e)->
    eG c w X a (o.op.operands.toList.map h)-> ∃u,(cE h o).run P w= .ok (.value u) w/\bI c w X v u
def fe(K:Ctx)(o:Oper)(s i:S):Prop:=
  ∀k a w next Q,Rel K k s a w->(∀c e h,Rel K c i e h->next e h)->o.wp K.P a w next Q
def S.put(s:S)(d:Option Tmp)(v:V):S:=match d with
  |some d=>{s with t:=bw s.t d v}
  |none=>s
theorem Rel.put{s:S}{a:Act}(h:Rel K β s a w)(d:Option Tmp)(k: ∀i,d=Y i->ey i K.nt=I){v:V}(l:bI β w (own K β s.H) v u):
    Rel K β (s.put d v) (a.put d u) w:=by
  cases d with
  |none=>exact h
  |some d=>
    have c:d<a.tmps.size:=by rw[h.nt];have:=k d rfl;simpa[Nat.blt_eq] using this
    refine {h with eE:= ?_,nt:= ?_}
    · intro i;simp only[Act.put,S.put];by_cases e:i=d
      · subst e;rw[c6];simp only[Array.getD_eq_getD_getElem?,Array.getElem?_setIfInBounds_self_of_lt c,Option.getD_some];exact l
      · rw[cY _ _ _ _ e];simp only[Array.getD_eq_getD_getElem?,Array.getElem?_setIfInBounds_ne (Ne.symm e)]
        have:=h.eE i;simpa only[Array.getD_eq_getD_getElem?] using this
    · simpa[Act.put] using h.nt
theorem ab5{o:Oper}{s:S}{vals:List V}{v:V}(m: ∀i,o.dst=Y i->ey i K.nt=I)(n:ht (o.op.operands.toList.map s.get) vals)(h:cZ K.P s.H o vals v):
    fe K o s (s.put o.dst v):=by
  intro k a w next Q l q
  obtain⟨u,c,r⟩:=h k w (own K k s.H) a.eval (λid e x=>(l.heap id e x).2) ((l.qz _).le n);unfold Oper.wp;rw[c];exact q k _ w (l.put o.dst m r)
section qg
variable {P:ee}{H:Nat->Option E}{d:Option Tmp}{ty:bM}{pos:String}{af:Array Edge}{g:Option (Nat×Bool)}
theorem ai7(x:ct)(v:V):cZ P H ⟨d,.move x,ty,pos,af,g⟩ [v] v:=by intro e w X a _ c;exact⟨a x,rfl,c.1⟩
theorem aeT(x:ct)(v:V):cZ P H ⟨d,.assign x,ty,pos,af,g⟩ [v] v:=by intro e w X a _ c;exact⟨a x,rfl,c.1⟩
theorem pY{b:Bool}(h:bI G w X (.t (.bool b)) u):u= .bool b:=by cases h with|t _ _ h=>cases h with|bool=>rfl
theorem eQ{k:jT}{n:Int}(h:bI G w X (.t (.int k n)) u):u= .int k n:=by cases h with|t _ _ h=>cases h with|int=>rfl
theorem hB{l:List UInt8}(h:bI G w X (.t (.str l)) u):u= .string ⟨l.toArray⟩:=by cases h with|t _ _ h=>cases h with|str=>rfl
theorem ab7(c x y:ct)(v e:V):cZ P H ⟨d,.pick c x y,ty,pos,af,g⟩ [.t (.bool I),v,e] v:=by
  intro i w X h _ a;refine⟨h x,?_,a.2.1⟩
  have:=pY a.1;simp[cE,this,asBool]
theorem abq(c x y:ct)(v fr:V):cZ P H ⟨d,.pick c x y,ty,pos,af,g⟩ [.t (.bool ao),v,fr] fr:=by
  intro h w X e _ a;refine⟨e y,?_,a.2.2.1⟩
  have:=pY a.1;simp[cE,this,asBool]
theorem Yg(x y:ct)(t c:bM)(k:jT)(m n:Int):cZ P H ⟨d,.binOp .add t x y c,ty,pos,af,g⟩ [.t (.int k m),.t (.int k n)] (.t (.int k (k.wrap (m+n)))):=by intro e w X h _ a;refine⟨.int k (k.wrap (m+n)),?_,.t _ _ (.int _ _)⟩;simp[cE,eQ a.1,eQ a.2.1,iF,iE,Op.intArith]
end qg
end
section
def dH(K:Ctx)(c:Code)(s:S)(Q:Exit->S->Prop):Prop:=
  ∀m a w h,Rel K m s a w->(∀e i d k l,Q e i->Rel K d i k l->h e k l)->c.wp K.P h a w
def pA(K:Ctx)(c:Array Oper)(l:List Oper)(s:S)(Q:S->Prop):Prop:=
  ∀m a w e,Rel K m s a w->(∀h d i k,Q h->Rel K d h i k->e .normal i k)->wpList K.P c e l a w
def s0(next:S->Prop)(Q:Exit->S->Prop):Exit->S->Prop
  | .normal,s=>next s
  |e,s=>Q e s
def Bf(c:Nat)(Q:Exit->S->Prop):Exit->S->Prop
  | .exit a,s=>bif cP a c then Q .normal s else Q (.exit a) s
  |e,s=>Q e s
def Gk(a:S->Prop)(Q:Exit->S->Prop):Exit->S->Prop
  | .normal,s=>a s
  |e,s=>Q e s
variable {P:ee}{c x y:Code}{a:Act}{w:bY}{b:Bool}{i t:Nat}{o:Oper}{β:Map}{X:Nat->Prop}
theorem aax{R:Type}{Q:Exit->Act->bY->Prop}(G:R->Act->bY->Prop)(oT :R->Nat)(x:R)(W:G x a w)
    (q: ∀x a w,G x a w->c.wp P (Exit.then (λA bZ=> ∃y,G y A bZ/\ oT y< oT x) Q) a w):(Code.loop c).wp P Q a w:=by
  intro b k cs;have H: ∀n x a w,oT x=n->G x a w->
      ∃e A bZ,Q e A bZ/\Arrives P (lone (b.at a (.code c:: .inLoop c::k)) cs w) b k cs e A bZ:=by
    intro n;induction n using Nat.strongRecOn with
    |_ n X=>
      intro x a w f g;obtain⟨e,h,i,o,d⟩:=q x a w g b (.inLoop c::k) cs;cases e with
      |normal=>
        obtain⟨y,r,L⟩:=o;obtain⟨B,C,F,z,m⟩:=X (oT y) (f▸L) y h i rfl r;exact⟨B,C,F,z,.of_steps (Steps.trans d (.one step_inLoop)) m⟩
      |exit id=>exact⟨_,h,i,o,.pass (x:= .inLoop c) rfl (λ_ _=> .inl aZ) d⟩
      |goto l=>exact⟨_,h,i,o,.pass (x:= .inLoop c) rfl (λ_ _=> .inl aZ) d⟩
      |ret=>exact⟨_,h,i,o,.pass (x:= .inLoop c) rfl (λ_ _=> .inl aZ) d⟩
      |panic j=>exact⟨_,h,i,o,.pass (x:= .inLoop c) rfl (λ_ _=> .inl aZ) d⟩
      |outgrown=>exact⟨_,h,i,o,.pass (x:= .inLoop c) rfl (λ_ _=> .inl aZ) d⟩
  obtain⟨e,A,bZ,o,d⟩:=H _ x a w rfl W;exact⟨e,A,bZ,o,.of_steps (.one step_loop) d⟩
section rules
variable {K:Ctx}{s:S}{Q:Exit->S->Prop}
theorem Ad{d:Exit->S->Prop}(h:dH K c s Q)(l: ∀e s,Q e s->d e s):dH K c s d:=
  λm a w n o x=>h m a w n o λe k i y z q r=>x e k i y z (l e k q) r
theorem zi{b:S}(i:s.le K b)(h:dH K c b Q):dH K c s Q:=
  λk a w l m n=>let ⟨d,e⟩:=i k a w m;h d a w l e n
theorem FL(h:dH K x s (s0 (λn=>dH K y n Q) Q)):dH K (.seq x y) s Q:=by
  intro o a w q r i;refine wp_seq (h o a w _ r ?_);intro e B m z A k d;cases e with
  |normal=>exact k m z A q d i
  |exit id=>exact i _ _ _ _ _ k d
  |goto l=>exact i _ _ _ _ _ k d
  |ret=>exact i _ _ _ _ _ k d
  |panic c=>exact i _ _ _ _ _ k d
  |outgrown=>exact i _ _ _ _ _ k d
theorem aeV(h:Q .normal s):dH K .skip s Q:=λc a w _ d e=>wp_skip (e _ _ c a w h d)
theorem ag7(h:Q .ret s):dH K .ret s Q:=λc a w _ d e=>wp_ret (e _ _ c a w h d)
theorem aeX(h:Q (.exit i) s):dH K (.exit i) s Q:=λc a w _ d e=>wp_exit (e _ _ c a w h d)
theorem d4{c:ct}(l:s.get c= .t (.bool b))(m:b=I->dH K x s Q)(n:b=ao->dH K y s Q):dH K (.cond c x y) s Q:=by
  intro e a w i d k;have h:=d.get c;rw[l] at h;have br:=pY h;cases b with
  |true=>exact wp_cond_true br (m rfl e a w i d k)
  |false=>exact wp_cond_false br (n rfl e a w i d k)
theorem aeD(h:dH K c s (Bf i Q)):dH K (.block i c) s Q:=by
  intro o a w y q n;refine wp_block (h o a w _ q ?_);intro e z r A B m d;cases e with
  |exit k=>
    by_cases hid:k=i
    · subst hid;simp only[Bf,Exit.inBlock,if_true] at*;rw[show cP k k=I by simp,cond_true] at m;exact n _ _ _ _ _ m d
    · simp only[Bf,Exit.inBlock] at*;rw[bh hid];rw[show cP k i=ao from by cases x:cP k i with
        |false=>rfl
        |true=>exact bu (eg x) hid,cond_false] at m
      exact n _ _ _ _ _ m d
  |normal=>exact n _ _ _ _ _ m d
  |goto l=>exact n _ _ _ _ _ m d
  |ret=>exact n _ _ _ _ _ m d
  |panic c=>exact n _ _ _ _ _ m d
  |outgrown=>exact n _ _ _ _ _ m d
theorem aeW{ι:Type}(o:ι->S)(p:ι->Prop)(oT :ι->Nat)(x:ι)(W:p x)(X:s.le K (o x))
    (h: ∀x,p x->dH K c (o x) (Gk (λR=> ∃y,p y/\ oT y< oT x/\R.le K (o y)) Q)):dH K (.loop c) s Q:=by
  intro b a w v f m;obtain⟨i,q⟩:=X b a w f;refine aax (λy g j=>p y/\ ∃i,Rel K i (o y) g j) oT x ⟨W,i,q⟩ ?_;intro y aW t ⟨r,A,B⟩;refine h y r A aW t _ B ?_;intro e R C a2 u k d;cases e with
  |normal=>
    obtain⟨z,F,G,n⟩:=k;obtain⟨H,L⟩:=n C a2 u d;exact⟨z,⟨F,H,L⟩,G⟩
  |exit id=>exact m _ _ _ _ _ k d
  |goto l=>exact m _ _ _ _ _ k d
  |ret=>exact m _ _ _ _ _ k d
  |panic c=>exact m _ _ _ _ _ k d
  |outgrown=>exact m _ _ _ _ _ k d
theorem adC{l:List Oper}(h:pA K l.toArray l s λd=>Q .normal d):dH K (.region i l.toArray ao) s Q:=by intro e a w k m n;exact wp_region_lit (h e a w k m λd o r x q c=>n _ _ _ _ _ q c)
theorem SU{c:Array Oper}{Q:S->Prop}(h:Q s):pA K c [] s Q:=λd a w _ e i=>i s d a w h e
theorem ag9{c:Array Oper}{E:List Oper}{Q:S->Prop}(k:S)(q:o.guard=al)(h:fe K o s k)(r:pA K c E k Q):pA K c (o::E) s Q:=by intro x a w l y z;refine wpList_plain q ?_;intro A d;exact h x a w A l y λe m n i=>d m n (r e m n l i z)
theorem Rel.bool(i:Rel K β s a w)(h:s.t t= .t (.bool b)):a.tmps[t]? =Y (.bool b):=by
  have d:=i.eE t;rw[h] at d;have c:=pY d;rw[uB] at c;cases e:a.tmps[t]? with
  |none=>rw[e] at c;simp[undef] at c
  |some x=>rw[e] at c;simp at c;rw[c]
theorem SA{G:Map}:bI G w X (.dB []) undef:= .dB [] #[] rfl λi c u h _=>by simp at h
theorem Rel.anc(e:Rel K β s a w){ops:Array Oper}{j:Nat}{want:Bool}(m:(ops[j]?).bind (·.dst)=Y t)(h:s.t t= .dB []):w8 ops a.tmps j≠Y want:=by
  have c:=e.eE t;rw[h] at c;have d:a.tmps.getD t undef= .tuple #[]:=by
    generalize a.tmps.getD t undef=y at c;cases c with
    |dB _ i k _=>
      have:i= #[]:=by simpa using k
      rw[this]
  have n: ∀b,a.tmps[t]? ≠Y (.bool b):=by
    intro b l;rw[uB,l] at d;simp at d
  unfold w8
  grind
def ha:Map:=⟨λ_=>al,λ_ _=>False⟩
theorem KG{b:Nat}(h:At ha i b):False:=by
  rcases h with ⟨_,h⟩|h
  · simp[ha] at h
  · exact h
def Jk(P:ee)(G:gC)(f:fQ)(args:List V)(r:V):Prop:=
  ∀(w:bY) (X:Nat->Prop) (a:List bm),G.ok w->(∀b,X b->b<w.heap.size)->eG ha w X args a->
    Calls P f a.toArray w λe c=> ∃u,e= .returned u/\Ext (λ_=>False) w c/\bI ha c X r u
theorem bI.any{W:Nat->Prop}{x:V}{v:bm}(h:bI ha w X x v)(a: ∀b,W b->X b):bI β w W x v:=
  h.mono (Ext.refl _ _) (λb _=>a b) (λ_ _ _ h=>by simp[ha] at h) (Shaped.refl _ _)
theorem eG.NX: ∀{β:Map} {w:bY} {X:Nat->Prop} {a:List V} {d:List bm},eG β w X a d->V.hK iO a=I->eG ha w X a d
  |_,_,_,[],[],_,_=>trivial
  |_,_,_,_::_,_::_,h,c=>by
    simp[V.hK] at c;exact⟨h.1.under (u:=iO) (λ_ h=>h) (λ_ h=>by simp[iO] at h) c.1,eG.NX h.2 c.2⟩
  |_,_,_,[],_::_,h,_=>h.elim
  |_,_,_,_::_,[],h,_=>h.elim
theorem Rel.grow{bZ:bY}(h:Rel K β s a w)(e:Ext (λ_=>False) w bZ):Rel K β s a bZ:=by
  have c:Ext (own K β s.H) w bZ:=e.weaken λ_ _ h=>h.elim;refine {h with ext:=h.ext.trans (e.weaken λ_ _ h=>h.elim),j':=h.j'.ext h.ext.size e,fresh:= ?_,heap:= ?_,eE:= ?_}
  · intro id b d;exact⟨(h.fresh id b d).1,lP (h.fresh id b d).2 e.size⟩
  · intro id k l;obtain⟨m,n⟩:=h.heap id k l;exact⟨m,n.mono c (λ_ _ h=>h) (fa.refl _) (λ_ h=>h) (vY e) λb d=>e.keep b (h.fresh id b d).2 λh=>h⟩
  · intro i;exact(h.eE i).mono c (λ_ _ h=>h) (fa.refl _) (vY e)
theorem fe.call{f:fQ}{d:Func}{c:Array ct}{k:Array bM}{vals:List V}{r:V}
    (B:o.op= .call {callee:= .value (.func f),args:=c,argTypes:=k}) (C:K.P.funcs[f]? =Y d) (F:(d.name== "runtime.NumGoroutine")=ao) (x:d.body.isNone=ao)
    (L: ∀i,o.dst=Y i->ey i K.nt=I) (R:ht (c.toList.map s.get) vals) (W:V.hK iO vals=I) (h:Jk K.P K.G f vals r):fe K o s (s.put o.dst r):=by
  intro y a w next Q m X
  have z:d.name≠ "runtime.NumGoroutine" :=by simpa using F
  have A:d.body≠al:=by intro e;simp[e] at x
  have n:(cE a.eval o).run K.P w= .ok (.enter f (c.map a.eval)) w:=by
    simp[cE,B,jV,Deferred.ofValue,Act.eval,jU,callFunc,C,z,A]
  unfold Oper.wp;rw[n,Oper.upon_enter];have l:=(eG.le (m.qz c.toList) R).NX W;have g: ∀b,own K y s.H b->b<w.heap.size:=by
    rintro b (j|⟨id,_,x⟩)
    · exact lP (m.mu b j).1 m.ext.size
    · exact(m.fresh id b x).2
  have ch:=h w (own K y s.H) _ m.GG g l;have p:(cb a.eval c.toList).toArray=c.map a.eval:=by rw[<-zC]
  rw[p] at ch;refine ch.mono ?_;rintro e t ⟨u,rfl,q,v⟩;exact X y _ t ((m.grow q).put o.dst L (v.any λ_ h=>h))
def xr:List V->Nat->(Nat->V)
  | [],_=>r'
  |v::a,i=>bw (xr a (i+1)) i v
theorem Jb{G:Map}{w:bY}{X:Nat->Prop}: ∀(a:List V) (c:List bm) (i:Nat),eG G w X a c-> ∀j,bI G w X (xr a i (i+j)) (c.getD j undef)
  | [],_,_,_,_=> .d' _
  |v::a,u::c,i,h,0=>by
    rw[uA,xr,c6];exact h.1
  |v::a,u::c,i,h,j+1=>by
    rw[xr,cY _ _ _ _ O,show i+(j+1)=(i+1)+j by omega];simpa using Jb a c (i+1) h.2 j
  |_::_,[],_,h,_=>h.elim
theorem eG.y4: ∀{β:Map} {w:bY} {X:Nat->Prop} {a:List V} {c:List bm},eG β w X a c->U c=U a
  |_,_,_,[],[],_=>rfl
  |_,_,_,_::_,_::_,h=>by simp[eG.y4 h.2]
  |_,_,_,[],_::_,h=>h.elim
  |_,_,_,_::_,[],h=>h.elim
def Ctx.pure(P:ee)(G:gC)(w:bY)(X:Nat->Prop)(nt:Nat):Ctx:={P,G,w0:=w,X,e5:=0,hq:=ha,nt}
def start(args:List V):S:={t:=xr args 0,H:=q6,u:=iO}
theorem Rel.start{G:gC}{nt:Nat}{args:List V}{a:List bm}(e:G.ok w)(k: ∀b,X b->b<w.heap.size)(h:eG ha w X args a)(n:U a<=nt):
    Rel (Ctx.pure P G w X nt) ha (Lift.start args) {tmps:=a.toArray++Array.replicate (nt-a.toArray.size) undef,defers:=[]} w:=by
  have d: ∀b,¬(Ctx.pure P G w X nt).M b:=by rintro b ⟨id,h,_⟩;simp[Ctx.pure] at h
  refine {ext:=Ext.refl _ _,tn:=e,tU:=λb h=>bu h (d b),mu:=λb h=>⟨k b h,d b⟩,base:=mz.refl _ _ _,j':=Shaped.refl _ _,low:=λ_ h=>bu h (sd _),fw:=λ_ _=>rfl,
           fS:=λ_ _ _ h=>h,yN:=λ_ _ _ h=>(KG h).elim,inj:=λ_ _ _ h=>(KG h).elim,fresh:=λ_ _ h=>(KG h).elim,heap:=λ_ _ h=>by simp[Lift.start,q6] at h,eE:= ?_,nt:= ?_,defers:=rfl}
  · intro i;have c:=Jb args a 0 h i;rw[e6] at c;have l:(a.toArray++Array.replicate (nt-a.toArray.size) undef).getD i undef=a.getD i undef:=by
      simp only[Array.getD_eq_getD_getElem?,List.getD_eq_getElem?_getD,Array.getElem?_append]
      grind
    simp only[l];refine c.mono (Ext.refl _ _) ?_ (fa.refl _) (Shaped.refl _ _);rintro b _ (m|⟨id,c,_⟩)
    · exact m
    · simp[Lift.start,q6] at c
  · simp[Ctx.pure];omega
end rules
end
set_option linter.unusedVariables false
set_option linter.unusedSimpArgs false
section
def db(P:ee)(t:bM)(u:gF)(z:bm)(c a:Nat):Prop:=
 P.underlying t=Y u/\ ∃i,P.info? t=Y i/\i.zero=Y z/\i.size=c/\i.bytes=a
variable {n b i L g_ k:Nat}{a:Act}{v:V}{G β:Map}{X:Nat->Prop}{q:Option Nat}{e:bM}
theorem db.of{P:ee}{t:bM}{u:gF}{z:bm}{bytes:Nat}(h:P.underlying t=Y u)(a:(P.info? t).map (λi=>(i.zero,i.size,i.bytes))=Y (Y z,n,bytes)):db P t u z n bytes:=by
 cases c:P.info? t with
 |none=>rw[c] at a;cases a
 |some i=>
  rw[c] at a;simp only[ln,Option.some.injEq,Prod.mk.injEq] at a;exact⟨h,i,c,a.1,a.2.1,a.2.2⟩
def mF:gF->Bool
 | .struct _=>I
 | .array _ _=>I
 |_=>ao
section runs
variable {P:ee}{t:bM}{u:gF}{z:bm}{s_ bytes:Nat}(w:bY)
theorem db.HJ(h:db P t u z s_ bytes):(isAgg t).run P w= .ok (mF u) w:=by obtain⟨a,_⟩:=h;simp only[isAgg,gE,eR a,gz];cases u<;>rfl
theorem db.run_sizeOf(h:db P t u z s_ bytes):(nV t).run P w= .ok s_ w:=by obtain⟨_,i,a,e,c,k⟩:=h;simp[nV,qh,a,c]
theorem db.ud(h:db P t u z s_ bytes):(zeroValue t).run P w= .ok z w:=by obtain⟨_,i,a,c,e,k⟩:=h;simp[zeroValue,qh,a,c]
theorem db.HL(h:db P t u z s_ bytes)(c:mF u=ao){a:Addr}{v:bm}(e:w.cell? a=Y v):(IU t a).run P w= .ok v w:=by simp only[IU,gE,h.HJ,gz,c];simp[e]
theorem l2(b o i:Nat):(⟨b,o,al⟩:Addr).add i=⟨b,o+i,al⟩:=by unfold Addr.add;split<;>simp_all
theorem db.HM(h:db P t u z s_ bytes)(a:mF u=I){o:Nat}{f:Nat->bm}(c: ∀j,j<s_->w.cell? ⟨b,o+j,al⟩=Y (f j)):
  (IU t ⟨b,o,al⟩).run P w= .ok (.agg ((List.range s_).map f).toArray) w:=by simp only[IU,gE,h.HJ,h.run_sizeOf,gz,a,if_true];rw[run_loadCells w ⟨b,o,al⟩ s_ f λj e=>by rw[l2];exact c j e];rfl
end runs
section qg
variable {P:ee}{H:Nat->Option E}{d:Option Tmp}{ty:bM}{pos:String}{af:Array Edge}{g:Option (Nat×Bool)}
variable {t:bM}{u:gF}{z:bm}{s_ bytes:Nat}
theorem uT{w:bY}{u:bm}(h:bI G w X (.ref n i) u): ∃b,G n=Y (Y b,0)/\u= .pointer (Y ⟨b,i,al⟩):=by cases h with|ref _ _ b a=>exact⟨b,a,rfl⟩
theorem r0{w:bY}{u:bm}(h:bI G w X (.c' L g_ n i k) u)(a:G L=Y (q,g_)): ∃b,q=Y b/\u= .pointer (Y ⟨b,i*n+k,al⟩):=by
 cases h with
 |c' _ _ _ _ _ b e c=>rw[c] at a;cases a;exact⟨b,rfl,rfl⟩
 |nx _ _ _ _ _ _ l g m c e=>rw[c] at a;cases a;omega
theorem nH{w:bY}{a:List (List T)}(h:dJ G w X n (.arr e g_ i a)): ∃q,G n=Y (q,g_):=by
 rcases h.2 with ⟨c,_⟩|⟨b,k,c,_⟩
 ·exact⟨_,c⟩
 exact⟨_,c⟩
theorem LX{w:bY}{a:List T}{u:bm}(h:bI G w X (.bc a) u): ∃(b c:Nat) (f:Nat->bm),u= .pointer (Y ⟨b,c,al⟩)/\b<w.heap.size/\ ¬X b/\
  (∀j,j<U a->w.cell? ⟨b,c+j,al⟩=Y (f j))/\ ∀(j:Nat) (x:T),a[j]? =Y x->ei w X x (f j):=by cases h with|bc _ b c f e i k l=>exact⟨b,c,f,rfl,e,i,k,l⟩
theorem ag5(x:ct)(i a:Nat)(k:List V)(c:V)(q:db P t u z s_ bytes)(r:mF u=ao)(y:H i=Y (.cells k))(m:k[a]? =Y c):
  cZ P H ⟨d,.load t x,ty,pos,af,g⟩ [.ref i a] c:=by
 intro R w X W A B;obtain⟨b,C,F⟩:=uT B.1;obtain⟨f,l,G,n,L,o,Q⟩:=A i _ y;rw[C] at n;cases n;have h:a<U k:=(cI.1 m).1;have e:w.cell? ⟨b,a,al⟩=Y l[a]:=by simp[World.cell?,L,o,h]
 refine⟨l[a],?_,Q a c l[a] m (by simp[o,h])⟩;simp[cE,F,Instr.loadAt,Instr.sureAddr,q.HL w r e]
theorem ag4(x:ct)(k a:Nat)(h:List V)(n:db P t u z s_ bytes)(o:mF u=I)(q:H k=Y (.cells h))(r:eh (a+s_) (U h)=I):
  cZ P H ⟨d,.load t x,ty,pos,af,g⟩ [.ref k a] (.agg ((h.drop a).take s_)):=by
 intro R w X W y A;obtain⟨b,B,C⟩:=uT A.1;obtain⟨f,l,F,m,G,p,M⟩:=y k _ q;rw[B] at m;cases m;have L:a+s_<=U h:=fJ r;have e: ∀j,j<s_->w.cell? ⟨b,a+j,al⟩=Y (l.getD (a+j) undef):=λj N=>by
  have:a+j<l.size:=O
  simp[World.cell?,G,this]
 refine⟨_,by simp[cE,C,Instr.loadAt,Instr.sureAddr,n.HM w o e];rfl,?_⟩;refine .agg _ _ bV (λi c v Q T=>?_)
 grind
theorem adx(x:ct)(c:T)(r:List T)(a:db P t u z s_ bytes)(e:mF u=ao):cZ P H ⟨d,.load t x,ty,pos,af,g⟩ [.bc (c::r)] (.t c):=by intro o w X q y h;obtain⟨b,i,f,k,A,B,l,m⟩:=LX h.1;have n:=l 0 aZ;refine⟨f 0,?_,.t _ _ (m 0 c aZ)⟩;simp only[cE,k,Instr.loadAt,Instr.sureAddr,gE,jD,gz];rw[a.HL w e (v:=f 0) (by simpa using n)];rfl
theorem adw(x:ct)(h:List T)(n:db P t u z s_ bytes)(o:mF u=I)(C:s_<=U h):
  cZ P H ⟨d,.load t x,ty,pos,af,g⟩ [.bc h] (.agg ((h.take s_).map .t)):=by
 intro F w X G L q;obtain⟨b,r,f,y,Q,R,k,A⟩:=LX q.1;refine⟨.agg ((List.range s_).map f).toArray,?_,.agg _ _ bV λi c v a l=>?_⟩
 ·simp only[cE,y,Instr.loadAt,Instr.sureAddr,gE,jD,gz];rw[n.HM w o (f:=f) λj W=>k j O];rfl
 have m:i<s_:=by
  have:=(cI.1 a).1;simp at this;omega
 rw[fG,List.getElem?_take_of_lt m] at a;simp only[List.getElem?_toArray,List.getElem?_map,List.getElem?_range m,ln,Option.some.injEq] at l;cases e:h[i]? with
 |none=>rw[e] at a;simp at a
 |some B=>rw[e] at a;simp at a;rw[<-a,<-l];exact .t _ _ (A i B e)
theorem abe(x:ct)(m g_ i a:Nat)(o:bM)(sz:Nat)(e:List (List T))(h:List T)(c:T)(L:db P t u z s_ bytes)(Q:mF u=ao)(C:H m=Y (.arr o g_ sz e))(n:e[i]? =Y h)(R:h[a]? =Y c):
  cZ P H ⟨d,.load t x,ty,pos,af,g⟩ [.c' m g_ sz i a] (.t c):=by
 intro v w X M F W;obtain⟨q,G⟩:=nH (F m _ C);obtain⟨b,r,f⟩:=r0 W.1 G;subst r;have br:=G;rcases(F m _ C).2 with ⟨y,A⟩|⟨N,B,y,A,V,h4,j⟩
 ·rw[A] at n;simp at n
 rw[br] at y;cases y;have p:i<U e:=(cI.1 n).1;have eI:a<sz:=by
  grind
 have l:i*sz+a<B.size:=by
  have:(i+1)*sz<=U e*sz:=fj _ p
  grind
 have k:w.cell? ⟨b,i*sz+a,al⟩=Y B[i*sz+a]:=by simp[World.cell?,A,l]
 refine⟨B[i*sz+a],?_,.t _ _ (j i a h c _ n R (by simp[l]))⟩;simp[cE,f,Instr.loadAt,Instr.sureAddr,L.HL w Q k]
theorem acb(x:ct)(o c k a:Nat)(q:Array mw)(e:mw)(r:gF)(y:bm)(h l:Nat)(A:P.underlying t=Y (.struct q))(B:q[k]? =Y e)(C:e.offset=a)(m:db P e.type r y h l)(n:(h==0)=ao):
  cZ P H ⟨d,.fieldAddr t x k,ty,pos,af,g⟩ [.ref o c] (.ref o (c+a)):=by
 intro Q w X R W F;obtain⟨b,G,L⟩:=uT F.1;have i:h≠0:=by simpa using n
 refine⟨.pointer (Y ⟨b,c+a,al⟩),?_,.ref _ _ _ G⟩;simp[cE,L,Instr.fieldAt,eR A,B,Instr.sureAddr,IP,m.run_sizeOf,i,l2,C]
theorem adA(x:ct)(y:List T)(k a:Nat)(A:Array mw)(e:mw)(B:gF)(C:bm)(i n:Nat)(F:P.underlying t=Y (.struct A))(G:A[k]? =Y e)(L:e.offset=a)(o:db P e.type B C i n)(q:(i==0)=ao):
  cZ P H ⟨d,.fieldAddr t x k,ty,pos,af,g⟩ [.bc y] (.bc (y.drop a)):=by
 intro N w X V k6 Q;have l:i≠0:=by simpa using q
 obtain⟨b,m,f,R,W,p,r,v⟩:=LX Q.1;refine⟨.pointer (Y ⟨b,m+a,al⟩),?_,.bc _ b (m+a) (λj=>f (a+j)) W p (λj M=>?_) λj c h=>?_⟩
 ·simp[cE,R,Instr.fieldAt,eR F,G,Instr.sureAddr,IP,o.run_sizeOf,l,l2,L]
 ·rw[sg];exact r (a+j) (by simp at M;omega)
 exact v (a+j) c (by simpa using h)
theorem abg(x:ct)(l g_ o i c k a:Nat)(F:Array mw)(e:mw)(R:gF)(W:bm)(h r:Nat)(f:P.underlying t=Y (.struct F))(j:F[k]? =Y e)(p:e.offset=a)(y:db P e.type R W h r)(A:(h==0)=ao)
  (B:bM) (m:List (List T)) (G:H l=Y (.arr B g_ o m)):cZ P H ⟨d,.fieldAddr t x k,ty,pos,af,g⟩ [.c' l g_ o i c] (.c' l g_ o i (c+a)):=by
 intro N w X V L v;obtain⟨q,Q⟩:=nH (L l _ G);obtain⟨b,C,M⟩:=r0 v.1 Q;subst C;have br:=Q;have n:h≠0:=by simpa using A
 refine⟨.pointer (Y ⟨b,i*o+(c+a),al⟩),?_,.c' _ _ _ _ _ _ (L l _ G).1 br⟩;simp[cE,M,Instr.fieldAt,eR f,j,Instr.sureAddr,IP,y.run_sizeOf,n,l2,p,Nat.add_assoc]
theorem adz(x y:ct)(e:bM)(k:List (List T))(l:List T)(n:Nat)(F:P.underlying t=Y (.slice e))(G:db P e u z s_ bytes)(o:k[n]? =Y l)(L:U l=s_):
  cZ P H ⟨d,.indexAddr t x y,ty,pos,af,g⟩ [.t (.bX k),.t (.int .i64 (n:Nat))] (.bc l):=by
 intro β w X Q k6 B;have dc:=eQ B.2.1;have R:n<U k:=(cI.1 o).1;cases B.1 with
 |t _ _ h=>
  generalize W:Q x=v at h;cases h with
  |iq a q=>simp at o
  |bX _ b m i q f p M C r N A=>
   have V:i=s_:=by rw[<-L];exact(r l (ca o)).symm
   subst V;refine⟨.pointer (Y ⟨b,m+n*i,al⟩),?_,.bc _ b (m+n*i) (λj=>f n j) p M (λj hj=>N n j R O) λj c h=>A n j l c o h⟩;simp[cE,W,dc,Instr.indexAt,zO,eR F,G.run_sizeOf,l2];intro h;omega
theorem d6{w:bY}{m:Nat}{u:bm}(h:bI G w X (.bE m g_ i k L) u)(c:G m=Y (q,g_)):
  (∃a b n ty,u= .slice (Y ⟨b,k*i,al⟩) L a/\q=Y b/\b<w.heap.size/\w.shape? b=Y (ty,n)/\(k+a)*i=n/\L<=a/\a<=maxLen)\/
  (q=al/\k=0/\L=0/\u= .slice al 0 0):=by
 cases h with
 |bE _ _ _ _ _ a b n ty l e o r x y A=>rw[e] at c;cases c;exact .inl ⟨a,b,n,ty,rfl,rfl,o,r,x,y,A⟩
 |jh _ _ _ l e=>rw[e] at c;cases c;exact .inr ⟨rfl,rfl,rfl,rfl⟩
 |mc _ _ _ _ _ _ B g C e l=>rw[e] at c;cases c;omega
theorem ab'(x y:ct)(e:bM)(c g_ a h n:Nat)(l:bM)(i:List (List T))(A:H c=Y (.arr l g_ s_ i))(G:P.underlying t=Y (.slice e))(L:db P e u z s_ bytes)(j:n<h):
  cZ P H ⟨d,.indexAddr t x y,ty,pos,af,g⟩ [.bE c g_ s_ a h,.t (.int .i64 (n:Nat))] (.c' c g_ s_ (a+n) 0):=by
 intro p w X Q B o;have dc:=eQ o.2.1;generalize C:Q x=v at o;have k:=o.1;simp only[C] at k;obtain⟨q,F⟩:=nH (B c _ A);rcases d6 k F with ⟨R,b,m,W,rfl,r,M,N,f,V,hm⟩|⟨_,_,h0,_⟩
 ·subst r;refine⟨.pointer (Y ⟨b,(a+n)*s_+0,al⟩),?_,.c' _ _ _ _ _ b (B c _ A).1 F⟩;simp[cE,C,dc,Instr.indexAt,zO,eR G,L.run_sizeOf,l2,Nat.add_mul]
  grind
 omega
end qg
def V.one:V->Bool
 | .t _=>I
 | .ref _ _=>I
 | .bc _=>I
 | .bE _ _ _ _ _=>I
 | .c' _ _ _ _ _=>I
 | .fn _ _=>I
 | .agg _=>ao
 | .dB _=>ao
 | .d'=>ao
def qe:List V->Bool
 | []=>I
 |v::a=>v.one&&qe a
theorem JQ: ∀{c:List V} {i:Nat} {v:V},qe c=I->c[i]? =Y v->v.one=I
 |v::c,0,_,h,a=>by simp at a;subst a;simp[qe] at h;exact h.1
 |v::c,i+1,_,h,a=>by simp at a;simp[qe] at h;exact JQ h.2 a
 | [],_,_,_,a=>by simp at a
def V.cs:V->List V
 | .agg cs=>cs
 |v=>[v]
def V.val:V->Bool
 | .agg _=>I
 |v=>v.one
theorem bI.lf{w:bY}{u:bm}(h:bI β w X v u)(a:v.one=I):u.oneCell'=I:=by
 cases h with
 |t x v h=>cases h<;>rfl
 |agg=>cases a
 |dB=>cases a
 |ref=>rfl
 |bc=>rfl
 |bE=>rfl
 |jh=>rfl
 |mc=>assumption
 |c'=>rfl
 |nx=>assumption
 |fn=>rfl
 |d'=>cases a
theorem v9{u:bm}(h:u.oneCell'=I):u.cells= #[u]:=by cases u<;>first|rfl|cases h
theorem bI.cells{w:bY}{u:bm}(h:bI β w X v u)(m:v.val=I):
  u.cells.size=U v.cs/\ ∀(i:Nat) c x,v.cs[i]? =Y c->u.cells[i]? =Y x->bI β w X c x:=by
 cases v with
 |agg cs=>
  cases h with|agg _ q o h=>exact⟨o,h⟩
 |dB=>cases m
 |d'=>cases m
 |t x=>
  have:=v9 (h.lf rfl);rw[this];exact⟨rfl,λi c y k l=>by cases i with|zero=>simp[V.cs] at k l;subst k;subst l;exact h|succ n=>simp[V.cs] at k⟩
 |ref a b=>
  have:=v9 (h.lf rfl);rw[this];exact⟨rfl,λi c y k l=>by cases i with|zero=>simp[V.cs] at k l;subst k;subst l;exact h|succ n=>simp[V.cs] at k⟩
 |bc a=>
  have:=v9 (h.lf rfl);rw[this];exact⟨rfl,λi c y k l=>by cases i with|zero=>simp[V.cs] at k l;subst k;subst l;exact h|succ n=>simp[V.cs] at k⟩
 |bE a b c d e=>
  have:=v9 (h.lf rfl);rw[this];exact⟨rfl,λi c y k l=>by cases i with|zero=>simp[V.cs] at k l;subst k;subst l;exact h|succ n=>simp[V.cs] at k⟩
 |c' a b c d e=>
  have:=v9 (h.lf rfl);rw[this];exact⟨rfl,λi c y k l=>by cases i with|zero=>simp[V.cs] at k l;subst k;subst l;exact h|succ n=>simp[V.cs] at k⟩
 |fn a b=>
  have:=v9 (h.lf rfl);rw[this];exact⟨rfl,λi c y k l=>by cases i with|zero=>simp[V.cs] at k l;subst k;subst l;exact h|succ n=>simp[V.cs] at k⟩
def S.new(s:S)(k:Nat)(e:E):S:={t:=s.t,H:=bw s.H k (Y e),u:=bw s.u k I}
theorem Rel.Hj{K:Ctx}{s:S}{w:bY}(h:Rel K β s a w)(k A:Nat)(f:s.u k=ao)(j:Array bm)(p:bM)(e:E)
  (he: ∀(q:Map) (V:Nat->Prop) (M:bY),M=w.alloc (.cells j p)->q k=Y (Y w.heap.size,A)->(∀v u,bI β w (own K β s.H) v u->bI q M V v u)->(∀b,¬q.n k b)->dJ q M V k e):
  Rel K (β.put k (Y (Y w.heap.size,A))) (s.new k e) a (w.alloc (.cells j p)):=by
 have l: ∀X,Ext X w (w.alloc (.cells j p)):=λX=>Ext.alloc X w _;have B:β k=al:=h.fw _ f;have r: ∀id x,β id=Y x->β.put k (Y (Y w.heap.size,A)) id=Y x:=λid x L=>by
  rw[gv _ _ _ _ (by intro e;subst e;rw[B] at L;cases L)];exact L
 have Q:=fa.of r;have m: ∀id b,At (β.put k (Y (Y w.heap.size,A))) id b->(id=k/\b=w.heap.size)\/(id≠k/\At β id b):=λid b br=>by
  by_cases C:id=k
  ·subst C;rcases br with ⟨g,br⟩|br
   ·rw[d5] at br;cases br;exact .inl ⟨rfl,rfl⟩
   exact bu br (h.fS _ _ f)
  refine .inr ⟨C,?_⟩;rcases br with ⟨g,br⟩|br
  ·rw[gv _ _ _ _ C] at br;exact .inl ⟨g,br⟩
  exact .inr br
 have y: ∀b,b<w.heap.size->own K (β.put k (Y (Y w.heap.size,A))) (bw s.H k (Y e)) b->own K β s.H b:=by
  rintro b hlt (L|⟨id,G,R⟩)
  ·exact .inl L
  rcases m id b R with ⟨rfl,rfl⟩|⟨N,F⟩
  ·omega
  rw[cY _ _ _ _ N] at G;exact .inr ⟨id,G,F⟩
 have W: ∀v u,bI β w (own K β s.H) v u->bI (β.put k (Y (Y w.heap.size,A))) (w.alloc (.cells j p)) (own K (β.put k (Y (Y w.heap.size,A))) (bw s.H k (Y e))) v u:=
  λv u b0=>b0.mono (l _) y Q (vY (l _))
 refine {ext:=h.ext.trans ((l λ_=>False).weaken λ_ _ h=>h.elim),tn:=h.tn,tU:=h.tU,mu:=h.mu,yN:=h.yN,base:= ?_,j':=h.j'.ext h.ext.size (l _),low:= ?_,fw:= ?_,fS:= ?_,inj:= ?_,fresh:= ?_,heap:= ?_,eE:=λi=>W _ _ (h.eE i),nt:=h.nt,defers:=h.defers}
 ·refine h.base.keep λid hid=>?_
  have:=h.low id hid;rw[gv _ _ _ _ (by intro e;subst e;rw[f] at this;cases this)]
 ·intro id hid;show bw s.u k I id=I;by_cases e:id=k
  ·subst e;exact c6 _ _ _
  rw[cY _ _ _ _ e];exact h.low id hid
 ·intro id hid;have c:bw s.u k I id=ao:=hid;by_cases e:id=k
  ·subst e;rw[c6] at c;cases c
  rw[cY _ _ _ _ e] at c;rw[gv _ _ _ _ e];exact h.fw id c
 ·intro id b hid;have c:bw s.u k I id=ao:=hid;by_cases e:id=k
  ·subst e;rw[c6] at c;cases c
  rw[cY _ _ _ _ e] at c;exact h.fS id b c
 ·intro id T b G R;rcases m id b G with ⟨rfl,rfl⟩|⟨_,F⟩<;>rcases m T _ R with ⟨rfl,e⟩|⟨_,h4⟩
  ·rfl
  ·have:=(h.fresh _ _ h4).2;omega
  ·subst e;have:=(h.fresh _ _ F).2;omega
  exact h.inj _ _ _ F h4
 ·intro id b br;rcases m id b br with ⟨rfl,rfl⟩|⟨_,F⟩
  ·exact⟨.inr h.ext.size,aZ⟩
  exact⟨(h.fresh _ _ F).1,by have:=(h.fresh _ _ F).2;simp;omega⟩
 intro id e' o;have o:bw s.H k (Y e) id=Y e':=o;show bw s.u k I id=I/\dJ _ _ (own K _ (bw s.H k (Y e))) id e';by_cases C:id=k
 ·subst C;rw[c6] at o;cases o;exact⟨c6 _ _ _,he _ _ _ rfl (d5 _ _ _) W λb=>h.fS _ b f⟩
 rw[cY _ _ _ _ C] at o;obtain⟨G,R⟩:=h.heap id e' o;exact⟨by rw[cY _ _ _ _ C];exact G,R.mono (l _) y Q (r id) (vY (l _)) λb br=>heap_alloc _ _ _ (h.fresh id b br).2⟩
theorem Rel.new{K:Ctx}{s:S}{w:bY}(h:Rel K β s a w)(k m:Nat)(q:s.u k=ao)(n:Array bm)(o:bM)(e:E)
  (r: ∀(c:Map) (l:Nat->Prop) (i:bY),i=w.alloc (.cells n o)->c k=Y (Y w.heap.size,m)->(∀v u,bI β w (own K β s.H) v u->bI c i l v u)->dJ c i l k e):
  Rel K (β.put k (Y (Y w.heap.size,m))) (s.new k e) a (w.alloc (.cells n o)):=
 h.Hj k m q n o e λc l i x y A _=>r c l i x y A
theorem Rel.Hk{K:Ctx}{s:S}{w:bY}(h:Rel K β s a w)(k:Nat)(o:s.u k=ao)(e:Array bm)(l:bM)(m:List V)(q:e.size=U m)
  (r: ∀(i:Nat) c u,m[i]? =Y c->e[i]? =Y u->bI β w (own K β s.H) c u):
  Rel K (β.put k (Y (Y w.heap.size,0))) (s.new k (.cells m)) a (w.alloc (.cells e l)):=
 h.new k 0 o e l _ λx F G y A n=>⟨w.heap.size,e,l,A,by subst y;exact kY _ _,q,λi c u B C=>n _ _ (r i c u B C)⟩
section ops
variable {K:Ctx}{s:S}{d:Option Tmp}{ty:bM}{pos:String}{af:Array Edge}{g:Option (Nat×Bool)}
variable {t:bM}{u:gF}{z:bm}{s_ bytes:Nat}
theorem YJ(k:Nat)(e:s.u k=ao)(x:ct)(v:V)(l: ∀i,d=Y i->ey i K.nt=I)(m:s.get x=v)(n:v.val=I):
  fe K ⟨d,.box t x,ty,pos,af,g⟩ s ((s.new k (.cells v.cs)).put d (.ref k 0)):=by
 intro y a w next Q h o
 subst m;obtain⟨q,r⟩:=(h.get x).cells n;unfold Oper.wp;have c:(cE a.eval ⟨d,.box t x,ty,pos,af,g⟩).run K.P w= .ok (.value (.pointer (Y ⟨w.heap.size,0,al⟩))) (w.alloc (.cells (a.eval x).cells t)):=by
  simp[cE,Instr.box,newVar,newRow]
 rw[c];exact o _ _ _ ((h.Hk k e _ t _ q r).put d l (.ref _ _ _ (c6 _ _ _)))
theorem ahC(k:Nat)(e:s.u k=ao)(l: ∀i,d=Y i->ey i K.nt=I)(m:db K.P t u z s_ bytes)(n:(js z).val=I):
  fe K ⟨d,.alloc t,ty,pos,af,g⟩ s ((s.new k (.cells (js z).cs)).put d (.ref k 0)):=by
 intro h a w next Q o q
 obtain⟨r,x⟩:=(Dq h w (own K h s.H) z).cells n;unfold Oper.wp;have c:(cE a.eval ⟨d,.alloc t,ty,pos,af,g⟩).run K.P w= .ok (.value (.pointer (Y ⟨w.heap.size,0,al⟩))) (w.alloc (.cells z.cells t)):=by
  simp[cE,Instr.alloc,m.ud,newVar,newRow]
 rw[c];exact q _ _ _ ((o.Hk k e _ t _ r x).put d l (.ref _ _ _ (c6 _ _ _)))
def pg(c:List V)(a:Nat)(e:List V):List V:=c.take a++e++c.drop (a+U e)
theorem JH{w:bY}{a c:Array bm}(l:w.heap[b]? =Y (.cells a e (0,0)))(i:c.size=a.size)(k:Nat):(w.setRow b c).shape? k=w.shape? k:=by
 by_cases h:k=b
 ·subst h;unfold iV;rw[kS _ _ _ _ _ _ l,l];simp[i]
 exact tl (oR _ _ _ _ h)
theorem Rel.setRow{K:Ctx}{s:S}{w:bY}(h:Rel K β s a w)(m b:Nat)(R:At β m b)(A:Array bm)(T:bM)(W:w.heap[b]? =Y (.cells A T (0,0)))(r:Array bm)(B:r.size=A.size)(e:E)(X:s.H m≠al)
  (V:dJ β (w.setRow b r) (own K β s.H) m e):Rel K β {s with H:=bw s.H m (Y e)} a (w.setRow b r):=by
 have x:own K β s.H b:= .inr ⟨m,X,R⟩;have q:Ext (own K β s.H) w (w.setRow b r):=⟨rfl,rfl,rfl,aZ,λk _ G=>oR _ _ _ _ λe=>G (e▸x)⟩
 have C:Shaped β w (w.setRow b r):=by
  intro l _;by_cases F:l=b
  ·subst F;unfold iV;rw[kS _ _ _ _ _ _ W,W];simp[B]
  exact tl (oR _ _ _ _ F)
 have o: ∀l,own K β (bw s.H m (Y e)) l->own K β s.H l:=by
  rintro l (G|⟨c,L,Q⟩)
  ·exact .inl G
  by_cases y:c=m
  ·subst y;exact .inr ⟨c,X,Q⟩
  rw[cY _ _ _ _ y] at L;exact .inr ⟨c,L,Q⟩
 have f: ∀v u,bI β w (own K β s.H) v u->bI β (w.setRow b r) (own K β (bw s.H m (Y e))) v u:=λv u b0=>b0.mono q (λl _=>o l) (fa.refl _) C;have ao1:K.M b\/K.w0.heap.size<=b:=(h.fresh m b R).1;refine {h with ext:=h.ext.trans' ⟨rfl,rfl,rfl,aZ,λk hk G=>oR _ _ _ _ ?_⟩,j':=λl h3=>(JH W B l).trans (h.j' l h3),fresh:= ?_,heap:= ?_,eE:=λi=>f _ _ (h.eE i)}
 ·intro e
  grind
 ·intro c l p;exact⟨(h.fresh c l p).1,by have:=(h.fresh c l p).2;simpa using this⟩
 intro c e' n;have n:bw s.H m (Y e) c=Y e':=n;show s.u c=I/\dJ β (w.setRow b r) (own K β (bw s.H m (Y e))) c e';by_cases y:c=m
 ·subst y;rw[c6] at n;cases n;cases N:s.H c with
  |none=>exact bu N X
  |some e0=>
   exact⟨(h.heap c e0 N).1,V.mono (Ext.refl _ _) (λl _=>o l) (fa.refl _) (λ_ h=>h) (Shaped.refl _ _) λ_ _=>rfl⟩
 rw[cY _ _ _ _ y] at n;obtain⟨L,Q⟩:=h.heap c e' n;exact⟨L,Q.mono q (λl _=>o l) (fa.refl _) (λ_ h=>h) C λl j=>oR _ _ _ _ λe=>y (h.inj c m l j (e▸R))⟩
theorem QH(e k:List V)(a:Nat)(h:a+U k<=U e)(l m:List bm)(q:U l=U e)(r:U m=U k){R:V->bm->Prop}
  (x: ∀(i:Nat) c u,e[i]? =Y c->l[i]? =Y u->R c u) (y: ∀(i:Nat) c u,k[i]? =Y c->m[i]? =Y u->R c u):
  ∀(i:Nat) c u,(pg e a k)[i]? =Y c->(l.take a++m++l.drop (a+U m))[i]? =Y u->R c u:=by
 intro i c u o n;simp only[pg,List.getElem?_append,fH,mv,List.getElem?_take,List.getElem?_drop] at o n
 grind
theorem IZ{P:ee}(h:db P t u z s_ bytes)(w:bY)(b o:Nat)(a:Array bm)(c:bM)(v:bm)(i:w.heap[b]? =Y (.cells a c (0,0)))
  (e:v.cells.size=s_) (l:o+s_<=a.size) (k: ∀x∈v.cells.toList,x.oneCell'=I):
  (storeVar t ⟨b,o,al⟩ v).run P w= .ok () (w.setRow b (a.toList.take o++v.cells.toList++a.toList.drop (o+U v.cells.toList)).toArray):=by
 have:=run_storeCells_at P b o c v.cells.toList 0 a w i (by simp[e];omega) k;simp only[storeVar,gE,h.run_sizeOf,gz,e,ne_eq,not_true,if_false]
 grind
theorem ahA(x y:ct)(A l:Nat)(B:List V)(v:V)(M:s.get x= .ref A l)(hy:s.get y=v)(N:s.H A=Y (.cells B))(fB:db K.P t u z s_ bytes)
  (T:v.val=I) (eI:qe v.cs=I) (hs:cP (U v.cs) s_=I) (dm:eh (l+s_) (U B)=I):
  fe K ⟨al,.store t x y,ty,pos,af,g⟩ s {s with H:=bw s.H A (Y (.cells (pg B l v.cs)))}:=by
 intro C a w next Q j hk
 subst hy;have F:=j.get x;rw[M] at F;obtain⟨b,p,rJ⟩:=uT F;obtain⟨iG,m,o,h1,G,h3,h4⟩:=(j.heap A _ N).2;rw[p] at h1;cases h1;obtain⟨c1,c2⟩:=(j.get y).cells T;have jc:(a.eval y).cells.size=s_:=by rw[c1];exact eg hs
 have hle:l+s_<=U B:=fJ dm;have L: ∀e∈(a.eval y).cells.toList,e.oneCell'=I:=by
  intro e he;obtain⟨i,aO⟩:=mY.1 he;have R:(a.eval y).cells[i]? =Y e:=by simpa using aO
  have W:i<U (s.get y).cs:=by rw[<-c1];exact(mm.1 R).1
  exact(c2 i _ e (bO W) R).lf (JQ eI (bO W))
 unfold Oper.wp;have X:=IZ fB w b l m o (a.eval y) G jc O L;have q:(cE a.eval ⟨al,.store t x y,ty,pos,af,g⟩).run K.P w= .ok .skip (w.setRow b (m.toList.take l++(a.eval y).cells.toList++m.toList.drop (l+U (a.eval y).cells.toList)).toArray):=by
  simp only[cE,rJ,Instr.storeAt,Instr.sureAddr,gE,jD,gz,X]
 rw[q];have n:U (m.toList.take l++(a.eval y).cells.toList++m.toList.drop (l+U (a.eval y).cells.toList))=m.size:=by
  grind
 refine hk C _ _ (Rel.setRow j A b (.inl ⟨_,p⟩) m o G _ (by simpa using n) (.cells (pg B l (s.get y).cs)) (by rw[N];simp) ?_);refine⟨b,_,o,p,kS _ _ _ _ _ _ G,?_,?_⟩
 ·simp only[List.size_toArray,n,h3];simp[pg]
  grind
 intro i c e ch he;have mO:own K C s.H b:= .inr ⟨A,by rw[N];simp,.inl ⟨_,p⟩⟩;have r: ∀v u,bI C w (own K C s.H) v u->bI C (w.setRow b (m.toList.take l++(a.eval y).cells.toList++m.toList.drop (l+U (a.eval y).cells.toList)).toArray) (own K C s.H) v u:=by
  intro v u T;refine T.mono ⟨rfl,rfl,rfl,aZ,λk _ M=>oR _ _ _ _ λe=>M (e▸mO)⟩ (λ_ _ h=>h) (fa.refl _) ?_;intro iG _;by_cases f:iG=b
  ·subst f;unfold iV;rw[kS _ _ _ _ _ _ G,G]
   grind
  exact tl (oR _ _ _ _ f)
 refine r _ _ (QH B (s.get y).cs l (by have:=eg hs;omega) m.toList (a.eval y).cells.toList (by simpa using h3) (by simpa using c1) (λi c u h5 h6=>h4 i c u h5 (by simpa using h6)) (λi c u h5 h6=>c2 i c u h5 (by simpa using h6)) i c e ch ?_)
 grind
end ops
end
section qg
variable {P:ee}{H:Nat->Option E}{d:Option Tmp}{ty:bM}{pos:String}{af:Array Edge}{g:Option (Nat×Bool)}
variable {t:bM}{u:gF}{z:bm}{s_ bytes:Nat}
theorem X2(x y:ct)(t c:bM)(k:jT)(m n:Int):cZ P H ⟨d,.binOp .sub t x y c,ty,pos,af,g⟩ [.t (.int k m),.t (.int k n)] (.t (.int k (k.wrap (m-n)))):=by intro e w X h _ a;refine⟨.int k (k.wrap (m-n)),?_,.t _ _ (.int _ _)⟩;simp[cE,eQ a.1,eQ a.2.1,iF,iE,Op.intArith]
theorem X8(x y:ct)(t c:bM)(k:jT)(m n:Int):cZ P H ⟨d,.binOp .mul t x y c,ty,pos,af,g⟩ [.t (.int k m),.t (.int k n)] (.t (.int k (k.wrap (m*n)))):=by intro e w X h _ a;refine⟨.int k (k.wrap (m*n)),?_,.t _ _ (.int _ _)⟩;simp[cE,eQ a.1,eQ a.2.1,iF,iE,Op.intArith]
theorem X4(x y:ct)(t c:bM)(k:jT)(m n:Int)(h:n≠0):cZ P H ⟨d,.binOp .quo t x y c,ty,pos,af,g⟩ [.t (.int k m),.t (.int k n)] (.t (.int k (k.wrap (m.tdiv n)))):=by intro e w X i _ a;refine⟨.int k (k.wrap (m.tdiv n)),?_,.t _ _ (.int _ _)⟩;simp[cE,eQ a.1,eQ a.2.1,iF,iE,Op.intDiv,h]
theorem X3(x y:ct)(t c:bM)(k:jT)(m n:Int)(h:n≠0):cZ P H ⟨d,.binOp .rem t x y c,ty,pos,af,g⟩ [.t (.int k m),.t (.int k n)] (.t (.int k (m.tmod n))):=by intro e w X i _ a;refine⟨.int k (m.tmod n),?_,.t _ _ (.int _ _)⟩;simp[cE,eQ a.1,eQ a.2.1,iF,iE,Op.intDiv,h]
theorem Ye(x y:ct)(t c:bM)(k:jT)(m n:Int):cZ P H ⟨d,.binOp .eql t x y c,ty,pos,af,g⟩ [.t (.int k m),.t (.int k n)] (.t (.bool (ak (m=n)))):=by intro e w X h _ a;refine⟨.bool (ak (m=n)),?_,.t _ _ (.bool _)⟩;simp[cE,eQ a.1,eQ a.2.1,iF,iE,Op.intCmp];rfl
theorem X6(x y:ct)(t c:bM)(k:jT)(m n:Int):cZ P H ⟨d,.binOp .neq t x y c,ty,pos,af,g⟩ [.t (.int k m),.t (.int k n)] (.t (.bool (!decide (m=n)))):=by intro e w X h _ a;refine⟨.bool (!decide (m=n)),?_,.t _ _ (.bool _)⟩;simp[cE,eQ a.1,eQ a.2.1,iF,iE,Op.intCmp];rfl
theorem Ya(x y:ct)(t c:bM)(k:jT)(m n:Int):cZ P H ⟨d,.binOp .lss t x y c,ty,pos,af,g⟩ [.t (.int k m),.t (.int k n)] (.t (.bool (ak (m<n)))):=by intro e w X h _ a;refine⟨.bool (ak (m<n)),?_,.t _ _ (.bool _)⟩;simp[cE,eQ a.1,eQ a.2.1,iF,iE,Op.intCmp]
theorem Yb(x y:ct)(t c:bM)(k:jT)(m n:Int):cZ P H ⟨d,.binOp .leq t x y c,ty,pos,af,g⟩ [.t (.int k m),.t (.int k n)] (.t (.bool (ak (m<=n)))):=by intro e w X h _ a;refine⟨.bool (ak (m<=n)),?_,.t _ _ (.bool _)⟩;simp[cE,eQ a.1,eQ a.2.1,iF,iE,Op.intCmp]
theorem Yc(x y:ct)(t c:bM)(k:jT)(m n:Int):cZ P H ⟨d,.binOp .gtr t x y c,ty,pos,af,g⟩ [.t (.int k m),.t (.int k n)] (.t (.bool (ak (n<m)))):=by intro e w X h _ a;refine⟨.bool (ak (n<m)),?_,.t _ _ (.bool _)⟩;simp[cE,eQ a.1,eQ a.2.1,iF,iE,Op.intCmp]
theorem Yd(x y:ct)(t c:bM)(k:jT)(m n:Int):cZ P H ⟨d,.binOp .geq t x y c,ty,pos,af,g⟩ [.t (.int k m),.t (.int k n)] (.t (.bool (ak (n<=m)))):=by intro e w X h _ a;refine⟨.bool (ak (n<=m)),?_,.t _ _ (.bool _)⟩;simp[cE,eQ a.1,eQ a.2.1,iF,iE,Op.intCmp]
theorem Yf(x y:ct)(t c:bM)(m n:List UInt8)(h:(U m:Int)+U n<=9223372036854775807):cZ P H ⟨d,.binOp .add t x y c,ty,pos,af,g⟩ [.t (.str m),.t (.str n)] (.t (.str (m++n))):=by
 intro l w X o _ a;refine⟨.string ⟨(m++n).toArray⟩,?_,.t _ _ (.str _)⟩;have e:(ByteArray.mk m.toArray).size=U m:=by simp[ByteArray.size]
 have i:(ByteArray.mk n.toArray).size=U n:=by simp[ByteArray.size]
 have k:(ByteArray.mk m.toArray)++(ByteArray.mk n.toArray)=ByteArray.mk (m++n).toArray:=by
  apply ByteArray.ext;simp
 simp[cE,hB a.1,hB a.2.1,iF,iE,Op.stringOp,e,i,k];exact h
theorem ail(x y:ct)(t c:bM)(m n:List UInt8):cZ P H ⟨d,.binOp .eql t x y c,ty,pos,af,g⟩ [.t (.str m),.t (.str n)] (.t (.bool (ak (m=n)))):=by
 intro e w X h _ a;refine⟨.bool (ak (m=n)),?_,.t _ _ (.bool _)⟩;simp[cE,hB a.1,hB a.2.1,iF,iE,Op.stringOp]
 grind
theorem aif(x y:ct)(t c:bM)(m n:List UInt8):cZ P H ⟨d,.binOp .neq t x y c,ty,pos,af,g⟩ [.t (.str m),.t (.str n)] (.t (.bool (!decide (m=n)))):=by
 intro e w X h _ a;refine⟨.bool (!decide (m=n)),?_,.t _ _ (.bool _)⟩;simp[cE,hB a.1,hB a.2.1,iF,iE,Op.stringOp]
 grind
theorem aik(x y:ct)(t c:bM)(m n:List UInt8):cZ P H ⟨d,.binOp .geq t x y c,ty,pos,af,g⟩ [.t (.str m),.t (.str n)] (.t (.bool (!Op.bytesLess m n))):=by intro e w X h _ a;refine⟨.bool (!Op.bytesLess m n),?_,.t _ _ (.bool _)⟩;simp[cE,hB a.1,hB a.2.1,iF,iE,Op.stringOp]
theorem aff(x y:ct)(l:List UInt8)(n:Nat)(b:UInt8)(e:P.underlying t=Y .string)(h:l[n]? =Y b):cZ P H ⟨d,.index t x y,ty,pos,af,g⟩ [.t (.str l),.t (.int .i64 (n:Nat))] (.t (.int .u8 b.toNat)):=by
 intro k w X m _ c;refine⟨.int .u8 b.toNat,?_,.t _ _ (.int _ _)⟩;have i:(ByteArray.mk l.toArray)[n]? =Y b:=by
  have a:=(cI.1 h).1;have b0:=(cI.1 h).2;rw[getElem?_pos _ _ (by simpa[ByteArray.size] using a)];simpa[ByteArray.getElem_eq_getElem_data] using b0
 simp[cE,hB c.1,eQ c.2.1,Instr.index,zO,eR e,i]
theorem X5(x:ct)(t:bM)(b:Bool):cZ P H ⟨d,.unOp .not t x,ty,pos,af,g⟩ [.t (.bool b)] (.t (.bool (!b))):=by intro c w X e _ a;refine⟨.bool (!b),?_,.t _ _ (.bool _)⟩;simp[cE,pY a.1,Op.unary]
theorem Zz(w:bY)(n:Nat)(a b:Bool)(c:P.underlying t=Y .bool):(Op.equalIn (n+1) t (.bool a) (.bool b)).run P w= .ok (a==b) w:=by simp[Op.equalIn,eR c]
theorem Pe(w:bY)(a b:Bool)(c:P.underlying t=Y .bool):(Op.equal t (.bool a) (.bool b)).run P w= .ok (a==b) w:=Zz w 9999 a b c
theorem adP(a b:Bool):iE .eql t (.bool a) (.bool b)=(do pure (.bool (<-Op.equal t (.bool a) (.bool b)))):=rfl
theorem adO(a b:Bool):iE .neq t (.bool a) (.bool b)=(do pure (.bool (!(<-Op.equal t (.bool a) (.bool b))))):=rfl
theorem aja(x y:ct)(c:bM)(m n:Bool)(e:P.underlying t=Y .bool):cZ P H ⟨d,.binOp .eql t x y c,ty,pos,af,g⟩ [.t (.bool m),.t (.bool n)] (.t (.bool (m==n))):=by intro h w X i _ a;refine⟨.bool (m==n),?_,.t _ _ (.bool _)⟩;simp[cE,pY a.1,pY a.2.1,iF,adP,Pe w m n e]
theorem ai'(x y:ct)(c:bM)(m n:Bool)(e:P.underlying t=Y .bool):cZ P H ⟨d,.binOp .neq t x y c,ty,pos,af,g⟩ [.t (.bool m),.t (.bool n)] (.t (.bool (!(m==n)))):=by intro h w X i _ a;refine⟨.bool (!(m==n)),?_,.t _ _ (.bool _)⟩;simp[cE,pY a.1,pY a.2.1,iF,adO,Pe w m n e]
theorem UP(x:ct)(a c:bM)(k e:jT)(h:gF)(n:Int)(i:P.underlying a=Y h)(l:P.underlying c=Y (.int e)):cZ P H ⟨d,.convert a c x,ty,pos,af,g⟩ [.t (.int k n)] (.t (.int e (e.wrap n))):=by intro o w X q _ m;refine⟨.int e (e.wrap n),?_,.t _ _ (.int _ _)⟩;simp only[cE,eQ m.1,convert,gE,eR i,eR l,gz];cases h<;>simp[Conv.intToInt]
theorem aez(x:ct)(l:List UInt8)(a:P.underlying t=Y .string):cZ P H ⟨d,.call {callee:= .builtin .len,args:= #[x],argTypes:= #[t]},ty,pos,af,g⟩ [.t (.str l)] (.t (.int .i64 (U l:Nat))):=by
 intro k w X c _ e;refine⟨.int .i64 (U l:Nat),?_,.t _ _ (.int _ _)⟩;have h:c x= .string ⟨l.toArray⟩:=hB e.1;have i:(ByteArray.mk l.toArray).size=U l:=by simp[ByteArray.size]
 simp[cE,jV,jU,lp,h,Builtin.len_,eR a,goInt,i]
theorem aiW{G:Map}{w:bY}{X:Nat->Prop}{c:List (List T)}{u:bm}(h:bI G w X (.t (.bX c)) u): ∃a cap,u= .slice a (U c) cap:=by
 cases h with
 |t _ _ h=>cases h with
  |iq a cap=>exact⟨a,cap,rfl⟩
  |bX _ b e s_ cap=>exact⟨_,cap,rfl⟩
theorem afh(x:ct)(e:bM)(c:List (List T))(i:P.underlying t=Y (.slice e)):cZ P H ⟨d,.call {callee:= .builtin .len,args:= #[x],argTypes:= #[t]},ty,pos,af,g⟩ [.t (.bX c)] (.t (.int .i64 (U c:Nat))):=by intro n w X k _ l;obtain⟨a,m,h⟩:=aiW l.1;refine⟨.int .i64 (U c:Nat),?_,.t _ _ (.int _ _)⟩;have h:k x=_:=h;simp[cE,jV,jU,lp,h,Builtin.len_,eR i,goInt]
theorem aeA(x:ct)(e:bM)(n g_ c i h:Nat)(y:P.underlying t=Y (.slice e))(o:bM)(k:List (List T))(A:H n=Y (.arr o g_ c k)):cZ P H ⟨d,.call {callee:= .builtin .len,args:= #[x],argTypes:= #[t]},ty,pos,af,g⟩ [.bE n g_ c i h] (.t (.int .i64 (h:Nat))):=by
 intro B w X r C F;obtain⟨a,cap,l⟩: ∃a cap,r x= .slice a h cap:=by
  have G:bI B w X (.bE n g_ c i h) (r x):=F.1;obtain⟨q,K⟩:=nH (C n _ A);rcases d6 G K with ⟨cap,b,m,L,l,_⟩|⟨_,_,Q,l⟩
  ·exact⟨_,_,l⟩
  exact⟨al,0,by rw[Q];exact l⟩
 refine⟨.int .i64 (h:Nat),?_,.t _ _ (.int _ _)⟩;simp[cE,jV,jU,lp,l,Builtin.len_,eR y,goInt]
theorem aeB(x:ct)(a:List V)(k:Nat)(v:V)(h:a[k]? =Y v):cZ P H ⟨d,.extract x k,ty,pos,af,g⟩ [.dB a] v:=by
 intro m w X e _ n;have i:bI m w X (.dB a) (e x):=n.1;generalize o:e x=y at i;cases i with
 |dB _ c q r=>
  have l:k<c.size:=by rw[q];exact(cI.1 h).1
  refine⟨c[k],?_,r k v c[k] h (by simp[l])⟩;simp[cE,o,Instr.extract,l]
theorem QJ(x:ct)(v:V)(a:(match v with| .ref _ _=>I| .bc _=>I|_=>ao)=I):cZ P H ⟨d,.nilCheck x,ty,pos,af,g⟩ [v] v:=by
 intro i w X c _ k;have e:bI i w X v (c x):=k.1;refine⟨c x,?_,e⟩;generalize h:c x=y at e;cases e with
 |ref=>simp[cE,h]
 |bc=>simp[cE,h]
 |c'=>cases a
 |nx=>cases a
 |mc=>cases a
 |t=>cases a
 |agg=>cases a
 |dB=>cases a
 |bE=>cases a
 |jh=>cases a
 |fn=>cases a
 |d'=>cases a
theorem eG.hh: ∀{β:Map} {w:bY} {X:Nat->Prop} {a:List V} {e:List bm},eG β w X a e->U e=U a/\ ∀(i:Nat) c u,a[i]? =Y c->e[i]? =Y u->bI β w X c u
 |_,_,_,[],[],_=>⟨rfl,λi c u h _=>by simp at h⟩
 |_,_,_,v::a,x::e,h=>by
  obtain⟨m,n⟩:=eG.hh h.2;refine⟨by simp[m],λi c u k l=>?_⟩;cases i with
  |zero=>simp at k l;subst k;subst l;exact h.1
  |succ i=>simp at k l;exact n i c u k l
 |_,_,_,[],_::_,h=>h.elim
 |_,_,_,_::_,[],h=>h.elim
theorem adv(f:fQ)(a:Array ct)(e:List V):cZ P H ⟨d,.makeFunc (.func f) #[] a,ty,pos,af,g⟩ e (.fn f e):=by
 intro l w X k _ m;have h:eG l w X e (a.toList.map k):=by simpa[Op.operands] using m
 obtain⟨n,o⟩:=h.hh;exact⟨.func (.func f) #[] (a.map k),by simp[cE,Instr.makeFunc],.fn f e _ (by simpa using n) λi c u q r=>o i c u q (by simpa using r)⟩
theorem X'(x y:ct)(a:Array bM)(k:jT)(m n:Int):cZ P H ⟨d,.call {callee:= .builtin .max,args:= #[x,y],argTypes:=a},ty,pos,af,g⟩ [.t (.int k m),.t (.int k n)] (.t (.int k (max m n))):=by
 intro q w X c _ e;refine⟨.int k (max m n),?_,.t _ _ (.int _ _)⟩;have h:c x= .int k m:=eQ e.1;have i:c y= .int k n:=eQ e.2.1;have l:(if n>m then n else m)=max m n:=by split<;>omega
 have o: ∀w,(Builtin.max_ a ty #[.int k m,.int k n]).run P w= .ok (.int k (max m n)) w:=by
  intro w;simp only[Builtin.max_,List.foldlM,Builtin.max2,l];rfl
 simp[cE,jV,jU,lp,h,i,o]
theorem X9(x y:ct)(a:Array bM)(k:jT)(m n:Int):cZ P H ⟨d,.call {callee:= .builtin .min,args:= #[x,y],argTypes:=a},ty,pos,af,g⟩ [.t (.int k m),.t (.int k n)] (.t (.int k (min m n))):=by
 intro o w X c _ e;refine⟨.int k (min m n),?_,.t _ _ (.int _ _)⟩;have h:c x= .int k m:=eQ e.1;have i:c y= .int k n:=eQ e.2.1;have l: ∀w,(Builtin.min_ a ty #[.int k m,.int k n]).run P w= .ok (.int k (min m n)) w:=by
  intro w;simp only[Builtin.min_,List.foldlM,Builtin.min2]
  first|rfl|(rw[show min m n=(if n<m then n else m) from by split<;>omega];rfl)
 simp[cE,jV,jU,lp,h,i,l]
end qg
section qg
variable {P:ee}{H:Nat->Option E}{d:Option Tmp}{ty:bM}{pos:String}{af:Array Edge}{g:Option (Nat×Bool)}
variable {t:bM}{u:gF}{z:bm}{s_ bytes:Nat}
theorem lx(w:bY)(n:Nat)(y:Nat)(c:Go.BoundsCode)(h:n<=y):(Instr.sliceBound (.int .i64 (n:Nat)) y c).run P w= .ok n w:=by
 simp[Instr.sliceBound,zO]
 grind
theorem JP(l:List UInt8)(a b:Nat):(ByteArray.mk l.toArray).extract a b=ByteArray.mk ((l.take b).drop a).toArray:=by
 apply ByteArray.ext;rw[ByteArray.data_extract]
 grind
theorem ab6(x:ct)(h i:ct)(l:List UInt8)(a b:Nat)(k:P.underlying t=Y .string)(m:a<=b)(n:b<=U l):
  cZ P H ⟨d,.slice t x (Y h) (Y i) al,ty,pos,af,g⟩ [.t (.str l),.t (.int .i64 (a:Nat)),.t (.int .i64 (b:Nat))] (.t (.str ((l.take b).drop a))):=by
 intro A w X c _ e;refine⟨.string ⟨((l.take b).drop a).toArray⟩,?_,.t _ _ (.str _)⟩;have o:c x=_:=hB e.1;have q:c h=_:=eQ e.2.1;have r:c i=_:=eQ e.2.2.1;have y:(ByteArray.mk l.toArray).size=U l:=by simp[ByteArray.size]
 simp[cE,o,q,r,Instr.sliceAt,Instr.slice,eR k,Instr.sliceBounds,y,lx w b (U l) _ n,lx w a b _ m,JP]
theorem Zw(x:ct)(c:ct)(l:List UInt8)(a:Nat)(i:P.underlying t=Y .string)(k:a<=U l):
  cZ P H ⟨d,.slice t x (Y c) al al,ty,pos,af,g⟩ [.t (.str l),.t (.int .i64 (a:Nat))] (.t (.str (l.drop a))):=by
 intro q w X e _ h;refine⟨.string ⟨(l.drop a).toArray⟩,?_,.t _ _ (.str _)⟩;have m:e x=_:=hB h.1;have n:e c=_:=eQ h.2.1;have o:(ByteArray.mk l.toArray).size=U l:=by simp[ByteArray.size]
 simp[cE,m,n,Instr.sliceAt,Instr.slice,eR i,Instr.sliceBounds,o,lx w a (U l) _ k,JP]
theorem ZO(x:ct)(a:ct)(l:List UInt8)(b:Nat)(h:P.underlying t=Y .string)(i:b<=U l):
  cZ P H ⟨d,.slice t x al (Y a) al,ty,pos,af,g⟩ [.t (.str l),.t (.int .i64 (b:Nat))] (.t (.str (l.take b))):=by
 intro o w X c _ e;refine⟨.string ⟨(l.take b).toArray⟩,?_,.t _ _ (.str _)⟩;have k:c x=_:=hB e.1;have m:c a=_:=eQ e.2.1;have n:(ByteArray.mk l.toArray).size=U l:=by simp[ByteArray.size]
 simp[cE,k,m,Instr.sliceAt,Instr.slice,eR h,Instr.sliceBounds,n,lx w b (U l) _ i,JP]
theorem ei.part{w:bY}{X:Nat->Prop}{c:List (List T)}{v:bm}(h:ei w X (.bX c) v)(a b s_:Nat)(h1:a<=b)(F:b<=U c)(o: ∀m,m∈c->U m=s_):
  ∃q k,v= .slice q (U c) k/\(U c)<=k/\ei w X (.bX ((c.take b).drop a)) (.slice (if k=a then q else q.map (·.add (a*s_))) (b-a) (k-a)):=by
 cases h with
 |iq q k=>
  have p:a=0:=by simp at F;omega
  have G:b=0:=by simp at F;omega
  subst p;subst G;exact⟨q,k,rfl,aZ,by simpa using ei.iq _ _⟩
 |bX _ s K l k f G M r y N S=>
  refine⟨_,k,rfl,r,?_⟩;have n:U ((c.take b).drop a)=b-a:=bV
  by_cases L:a=b
  ·subst L;rw[show(c.take a).drop a=[] by simp];rw[pq];exact .iq _ _
  have Q:c≠[]:=by intro e;subst e;simp at F;omega
  obtain⟨W,A⟩:=Dd c Q;have R:l=s_:=by rw[<-y W A,o W A]
  subst R;rw[bh O];simp only[ln,l2];rw[<-n];refine .bX _ s (K+a*l) l (k-a) (λi j=>f (a+i) j) G M (by rw[n];omega) (λm B=>o m (hi (hl B))) (λi j V hj=>?_) λi j m x C h4=>?_
  ·have:=N (a+i) j (by rw[n] at V;omega) hj;rw[ft,<-sg] at this;exact this
  refine S (a+i) j m x ?_ h4;rw[iS,iC] at C;split at C
  ·exact C
  cases C
theorem ZE(x:ct)(l:ct)(e:bM)(c:List (List T))(a:Nat)(y:P.underlying t=Y (.slice e))(A:db P e u z s_ bytes)(m:a<=U c)(k: ∀i,i∈c->U i=s_):
  cZ P H ⟨d,.slice t x (Y l) al al,ty,pos,af,g⟩ [.t (.bX c),.t (.int .i64 (a:Nat))] (.t (.bX (c.drop a))):=by
 intro B w X n _ o;have C:n l=_:=eQ o.2.1;have F:bI B w X (.t (.bX c)) (n x):=o.1;cases F with
 |t _ _ h=>
  obtain⟨L,G,K,q,r⟩:=h.part a (U c) s_ m (dV _) k;rw[eB] at r;refine⟨_,?_,.t _ _ r⟩;simp[cE,K,C,Instr.sliceAt,Instr.slice,eR y,Instr.sliceBounds,lx w a (U c) _ m,A.run_sizeOf]
theorem aaw(x:ct)(l:ct)(e:bM)(a:List (List T))(b:Nat)(r:P.underlying t=Y (.slice e))(y:db P e u z s_ bytes)(A:b<=U a)(i: ∀c,c∈a->U c=s_):
  cZ P H ⟨d,.slice t x al (Y l) al,ty,pos,af,g⟩ [.t (.bX a),.t (.int .i64 (b:Nat))] (.t (.bX (a.take b))):=by
 intro B w X m _ n;have C:m l=_:=eQ n.2.1;have F:bI B w X (.t (.bX a)) (m x):=n.1;cases F with
 |t _ _ h=>
  obtain⟨K,k,G,o,q⟩:=h.part 0 b s_ (uF _) A i;simp only[List.drop_zero] at q;refine⟨_,?_,.t _ _ q⟩;simp[cE,G,C,Instr.sliceAt,Instr.slice,eR r,Instr.sliceBounds,lx w b k _ O,y.run_sizeOf]
theorem adt(x:ct)(o q:ct)(e:bM)(c:List (List T))(a b:Nat)(A:P.underlying t=Y (.slice e))(B:db P e u z s_ bytes)(r:a<=b)(C:b<=U c)(k: ∀i,i∈c->U i=s_):
  cZ P H ⟨d,.slice t x (Y o) (Y q) al,ty,pos,af,g⟩ [.t (.bX c),.t (.int .i64 (a:Nat)),.t (.int .i64 (b:Nat))] (.t (.bX ((c.take b).drop a))):=by
 intro F w X l _ m;have G:l o=_:=eQ m.2.1;have K:l q=_:=eQ m.2.2.1;have L:bI F w X (.t (.bX c)) (l x):=m.1;cases L with
 |t _ _ h=>
  obtain⟨W,n,Q,y,R⟩:=h.part a b s_ r C k;refine⟨_,?_,.t _ _ R⟩;simp[cE,Q,G,K,Instr.sliceAt,Instr.slice,eR A,Instr.sliceBounds,lx w b n _ O,lx w a b _ r,B.run_sizeOf]
end qg
theorem ei.amW{w:bY}{X:Nat->Prop}{a:List (List T)}{e:Option Addr}{n i:Nat}(h:ei w X (.bX a) (.slice e n i))(c:Nat)(q:n<=c):ei w X (.bX a) (.slice e n c):=by
 cases h with
 |iq=>exact .iq _ c
 |bX _ b k s_ _ f r x o l m y=>exact .bX a b k s_ c f r x q l m y
theorem abp{P:ee}{H:Nat->Option E}{d:Option Tmp}{ty t:bM}{pos:String}{af:Array Edge}{g:Option (Nat×Bool)}{u:gF}{z:bm}{i n:Nat}(x y A:ct)(e:bM)(a:List (List T))(b:Nat)(G:P.underlying t=Y (.slice e))(K:db P e u z i n)(L:b<=U a)(l: ∀c,c∈a->U c=i):
  cZ P H ⟨d,.slice t x al (Y y) (Y A),ty,pos,af,g⟩ [.t (.bX a),.t (.int .i64 (b:Nat)),.t (.int .i64 (b:Nat))] (.t (.bX (a.take b))):=by
 intro Q w X m _ o;have R:m y=_:=eQ o.2.1;have W:m A=_:=eQ o.2.2.1;have f:bI Q w X (.t (.bX a)) (m x):=o.1;cases f with
 |t _ _ h=>
  obtain⟨B,k,j,C,q⟩:=h.part 0 b i (uF _) L l;simp only[List.drop_zero,Nat.zero_mul,Nat.sub_zero] at q;have r:ei w X (.bX (a.take b)) (.slice (if b=0 then B else B.map (·.add 0)) b b):=by
   by_cases F:b=0
   ·subst F;exact .iq _ _
   rw[bh (show¬k=0 by omega)] at q;rw[bh F];exact q.amW b (dV _)
  refine⟨_,?_,.t _ _ r⟩;simp[cE,j,R,W,Instr.sliceAt,Instr.slice,eR G,Instr.sliceBounds,lx w b k _ O,lx w b b _ (Nat.le_refl _),K.run_sizeOf]
section
def sy(h:Map)(w:bY)(X:Nat->Prop)(a:List V)(e:List bm):Prop:=U e=U a/\ ∀(i:Nat) c u,a[i]? =Y c->e[i]? =Y u->bI h w X c u
variable {w:bY}{X:Nat->Prop}{o:Oper}{vals:List V}{v:V}{β:Map}{n:Nat}
theorem sy.pg{G:Map}{a e:List V}{c i:List bm}(h:sy G w X a c)(k:sy G w X e i)(l:Nat)(m:l+U e<=U a):
  sy G w X (pg a l e) (c.take l++i++c.drop (l+U i)):=by refine⟨?_,QH a e l m c i h.1 k.1 h.2 k.2⟩;have n:=h.1;have o:=k.1;simp[Lift.pg];omega
theorem SX: ∀(c:List bm) (k a:Nat) (cells:Array bm),a+k+U c<=cells.size->
  (c.zipIdx k).foldl (λcs (p:bm×Nat)=>cs.setIfInBounds (a+p.2) p.1) cells=(cells.toList.take (a+k)++c++cells.toList.drop (a+k+U c)).toArray
 | [],k,a,cells,_=>aZ
 |v::c,k,a,cells,h=>by simp only[List.zipIdx_cons,List.foldl_cons];simp only[fP] at h;rw[SX c (k+1) a _ bV];have e:=list_seg_step cells.toList (a+k) v c bV;simp only[Array.toList_setIfInBounds,fP];congr 1
def nf(a:Nat->Option (Nat×Nat))(h:List V):List (Nat×V)->Option (List V)
 | []=>Y h
 |(i,v)::c=>match a i with
  |none=>al
  |some (e,s_)=>bif v.val&&cP (U v.cs) s_&&eh (e+s_) (U h) then nf a (pg h e v.cs) c else al
theorem xl{β:Map}{w:bY}{X:Nat->Prop}(a:Nat->Option (Nat×Nat)): ∀(is:List Nat) (k:List V) (C:List bm) (cs:List V) (l:Array bm) (n:List V),sy β w X cs l.toList->eG β w X k C->U is=U k->
  nf a cs (is.zip k)=Y n-> ∃o,Instr.fill a l (is.zip C)=Y o/\sy β w X n o.toList
 | [],[],[],cs,l,n,h,_,_,m=>by simp[nf] at m;subst m;exact⟨l,rfl,h⟩
 |i::is,v::k,x::C,cs,l,n,h,A,B,m=>by
  simp only[List.zip_cons_cons,nf] at m;cases G:a i with
  |none=>rw[G] at m;cases m
  |some q=>
   obtain⟨e,s_⟩:=q;rw[G] at m;simp only[] at m;cases F:(v.val&&cP (U v.cs) s_&&eh (e+s_) (U cs)) with
   |false=>rw[F] at m;cases m
   |true=>
    rw[F,cond_true] at m;simp only[cJ] at F;obtain⟨⟨f,dG⟩,b⟩:=F;have dG:=eg dG;have b:=fJ b;obtain⟨L,j⟩:=A.1.cells f;have M:l.size=U cs:=by simpa using h.1
    have Q:sy β w X v.cs x.cells.toList:=⟨by simpa using L,λi c u R W=>j i c u R (by simpa using W)⟩
    have r:=h.pg Q e O;have y:x.cells.zipIdx.foldl (λcs (p:bm×Nat)=>cs.setIfInBounds (e+p.2) p.1) l=(l.toList.take e++x.cells.toList++l.toList.drop (e+U x.cells.toList)).toArray:=by
     rw[<-Array.foldl_toList,Array.toList_zipIdx]
     have:=SX x.cells.toList 0 e l (by simp[L];omega);simpa using this
    obtain⟨o,R,W⟩:=xl a is k C (pg cs e v.cs) (l.toList.take e++x.cells.toList++l.toList.drop (e+U x.cells.toList)).toArray n (by simpa using r) A.2 (by simpa using B) m;refine⟨o,?_,W⟩;simp only[List.zip_cons_cons,Instr.fill,G];rw[bh (by simp[L];omega),y];exact R
 | [],_::_,_,_,_,_,_,_,B,_=>by simp at B
 |_::_,[],_,_,_,_,_,_,B,_=>by simp at B
 | [],[],_::_,_,_,_,_,A,_,_=>A.elim
 |_::_,_::_,[],_,_,_,_,A,_,_=>A.elim
theorem zG(c:ct->bm): ∀a:List (Nat×ct),a.map (λp=>(p.1,c p.2))=(a.map (·.1)).zip ((a.map (·.2)).map c)
 | []=>rfl
 |p::a=>by simp only[jn,List.zip_cons_cons,zG c a]
def F'(P:ee)(H:Nat->Option E)(o:Oper)(a:List V)(v:V):Prop:=
 ∀(c:Map) (w:bY) (X:Nat->Prop) (i:ct->bm),(∀id e,H id=Y e->dJ c w X id e)->(∀b,X b->b<w.heap.size)->
  eG c w X a (o.op.operands.toList.map i)-> ∃u h,(cE i o).run P w= .ok (.value u) h/\Ext (λ_=>False) w h/\bI c h X v u
theorem cZ.g{P:ee}{H:Nat->Option E}(h:cZ P H o vals v):F' P H o vals v:=
 λa w X c e _ i=>let ⟨u,k,l⟩:=h a w X c e i;⟨u,w,k,Ext.refl _ _,l⟩
theorem Rel.NY{K:Ctx}{s:S}{a:Act}(c:Rel K β s a w): ∀b,own K β s.H b->b<w.heap.size:=by
 rintro b (e|⟨id,_,h⟩)
 ·exact lP (c.mu b e).1 c.ext.size
 exact(c.fresh id b h).2
theorem IW{K:Ctx}{s:S}(n: ∀i,o.dst=Y i->ey i K.nt=I)(q:ht (o.op.operands.toList.map s.get) vals)(h:F' K.P s.H o vals v):
  fe K o s (s.put o.dst v):=by
 intro l a w next Q k r
 obtain⟨u,x,c,m,y⟩:=h l w (own K l s.H) a.eval (λid e m=>(k.heap id e m).2) k.NY ((k.qz _).le q);unfold Oper.wp;rw[c];exact r l _ x ((k.grow m).put o.dst n y)
section ops
variable {P:ee}{H:Nat->Option E}{d:Option Tmp}{ty:bM}{pos:String}{af:Array Edge}{g:Option (Nat×Bool)}
variable {t:bM}{u:gF}{z:bm}{s_ bytes:Nat}
theorem E7(e:Map)(w:bY)(X:Nat->Prop)(us:List bm)(n:Nat)(h:U us=n):sy e w X (en n .d') us:=
 ⟨by simp[h],λi c u a _=>by
  rw[wS] at a;split at a
  ·cases a;exact .d' _
  cases a⟩
theorem ag6(k:Array (Nat×ct))(G:Array mw)(a:Array (Nat×Nat))(h l:List V)(L:db P t (.struct G) z s_ bytes)
  (Q: ∀w,(G.mapM (m:=Sem) λf:mw=>do pure (f.offset,<-nV f.type)).run P w= .ok a w) (R:(js z).val=I) (n:cP (U k.toList) (U h)=I)
  (W:nf (a[·]?) (js z).cs ((k.toList.map (·.1)).zip h)=Y l):cZ P H ⟨d,.build t k,ty,pos,af,g⟩ h (.agg l):=by
 intro r w X o _ b;have y:eG r w X h ((k.toList.map (·.2)).map o):=by simpa[Op.operands] using b
 obtain⟨j,p⟩:=(Dq r w X z).cells R;obtain⟨A,B,q⟩:=xl (β:=r) (w:=w) (X:=X) (a[·]?) (k.toList.map (·.1)) h _ (js z).cs z.cells l ⟨by simpa using j,λi c u B q=>p i c u B (by simpa using q)⟩ y (by simpa using eg n) W;refine⟨.agg A,?_,.agg _ _ (by simpa using q.1) λi c u v M=>q.2 i c u v (by simpa using M)⟩;have C:=zG o k.toList;have F:=Q w;simp only[cE,Instr.build,gE,L.ud,gz,eR L.1];rw[F];simp only[gz,Array.toList_map];have e:(k.toList.map λx=>match x with|(i,x)=>(i,o x))=(k.toList.map (·.1)).zip ((k.toList.map (·.2)).map o):=by rw[<-C]
 rw[e,B];rfl
theorem SR(x:ct)(k:Nat)(C:Array mw)(h:mw)(m:List V)(v:V){a:gF}{e:bm}{L:Nat}(F:db P t (.struct C) z s_ bytes)(G:C[k]? =Y h)(l:db P h.type a e n L)
  (q:(mF a=I/\eh (h.offset+n) (U m)=I/\v= .agg ((m.drop h.offset).take n))\/(mF a=ao/\m[h.offset]? =Y v)):cZ P H ⟨d,.field t x k,ty,pos,af,g⟩ [.agg m] v:=by
 intro j w X Q _ o;have R:bI j w X (.agg m) (Q x):=o.1;generalize W:Q x=y at R;cases R with
 |agg _ r p b=>
  rcases q with ⟨o,M,rfl⟩|⟨o,q⟩
  ·have N:=fJ M;refine⟨.agg (r.extract h.offset (h.offset+n)),?_,.agg _ _ bV λi c u B A=>?_⟩
   ·simp[cE,W,Instr.field,eR F.1,G,asAgg,part,l.HJ,l.run_sizeOf,o]
   have T:i<n:=by
    have:=(cI.1 B).1;simp at this;omega
   rw[List.getElem?_take_of_lt T,iS] at B;refine b (h.offset+i) c u B ?_;rw[Array.getElem?_extract] at A;split at A
   ·exact A
   cases A
  have f:h.offset<r.size:=by rw[p];exact(cI.1 q).1
  refine⟨r[h.offset],?_,b _ v r[h.offset] q (by simp[f])⟩;simp[cE,W,Instr.field,eR F.1,G,asAgg,part,l.HJ,o,f]
theorem PJ(n:Nat)(m:Array (Nat×ct))(e:bM)(k:List V)(a:List (List T))(hu:P.underlying t=Y (.slice e))(he:db P e u z s_ bytes)(B:cP (U m.toList) (U k)=I)
  (dc:cP (U a) n=I) (o: ∀c,c∈a->U c=s_) (C:eh (n*s_) 16777216=I)
  (jK:nf (λi=>Y (i*s_,s_)) (en (n*s_) .d') ((m.toList.map (·.1)).zip k)=Y (a.flatten.map .t)):
  F' P H ⟨d,.buildSlice t n m,ty,pos,af,g⟩ k (.t (.bX a)):=by
 intro β w X F _ iy hT;have f:=eg dc;have p:eG β w X k ((m.toList.map (·.2)).map F):=by simpa[Op.operands] using hT
 have v:=zG F m.toList;obtain⟨l,q,A⟩:=xl (β:=β) (w:=w) (X:=X) (λi=>Y (i*s_,s_)) (m.toList.map (·.1)) k _ (en (n*s_) .d')
  ((Array.range (n*s_)).map ((if n*s_=0 then #[] else z.cells)[· %(if n*s_=0 then #[] else z.cells).size]!)) _ (E7 _ _ _ _ _ aZ) p (by simpa using eg B) jK
 have G:(cE F ⟨d,.buildSlice t n m,ty,pos,af,g⟩).run P w= .ok (.value (.slice (Y ⟨w.heap.size,0,al⟩) n n)) (w.alloc (.cells l e)):=by
  have e2:(m.toList.map λx=>match x with|(i,x)=>(i,F x))=(m.toList.map (·.1)).zip ((m.toList.map (·.2)).map F):=by rw[<-v]
  have M: ¬(n*s_>2^24):=by have:=fJ C;omega
  simp only[cE,Instr.buildSlice,gE,eR hu,gz,he.run_sizeOf,M,if_false,Array.toList_map];by_cases R:n*s_=0
  ·simp only[R,if_true] at q;simp only[R,if_true,jD,gE,gz];rw[e2,q];rfl
  simp only[R,if_false] at q;simp only[R,if_false,jD,gE,he.ud,gz];rw[e2,q];rfl
 refine⟨_,_,G,Ext.alloc _ _ _,.t _ _ ?_⟩;subst f;have y:l.size=U a.flatten:=by
  have h:=A.1
  grind
 have N:U a.flatten=U a*s_:=by
  rw[List.length_flatten]
  have:a.map U=en (U a) s_:=List.eq_replicate_iff.2 ⟨aZ,λb M=>by obtain⟨r,cC,rfl⟩:=fh.1 M;exact o r cC⟩;rw[this];simp
 have L: ∀(a:List (List T)),(∀c,c∈a->U c=s_)-> ∀(i j:Nat) (c:List T) (x:T),a[i]? =Y c->c[j]? =Y x->a.flatten[i*s_+j]? =Y x:=by
  intro a;induction a with
  |nil=>intro _ i j c x h _;simp at h
  |cons r a mS=>
   intro hs i j c x q A;have cC:=hs r aZ;rw[zB];cases i with
   |zero=>
    simp at q;subst q
    have:=(cI.1 A).1;rw[jC,e6,ll this];exact A
   |succ i=>
    simp at q;rw[lk (by rw[cC,ft];omega)];rw[show(i+1)*s_+j-U r=i*s_+j by rw[cC,ft];omega];exact mS (λc h=>hs c (by simp[h])) i j c x q A
 have Q: ∀i j,i<U a->j<s_->i*s_+j<l.size:=by
  intro i j aO W;rw[y,N]
  have:(i+1)*s_<=U a*s_:=fj _ aO
  grind
 refine .bX a w.heap.size 0 s_ (U a) (λi j=>l.getD (i*s_+j) undef) aZ (λh=>by have:=iy _ h;omega) (dV _) o (λi j aO W=>?_) λi j c x h3 h4=>?_
 ·rw[e6,World.cell?_alloc_new]
  have:=Q i j aO W;simp[this]
 have h5:=L a o i j c x h3 h4;have aO:=(cI.1 h3).1;have W:j<s_:=by rw[<-o c (ca h3)];exact(cI.1 h4).1
 have h6:=Q i j aO W;have qA:=A.2 (i*s_+j) (.t x) l[i*s_+j] (by rw[fG,h5];rfl) (by simp[h6]);cases qA with
 |t _ _ h=>
  have:l.getD (i*s_+j) undef=l[i*s_+j]:=by simp[h6]
  rw[this];exact h.mono (Ext.alloc X _ _) λ_ _ h=>h
end ops
theorem qU{i j s_:Nat}(a:i<n)(c:j<s_):i*s_+j<n*s_:=by
 have:(i+1)*s_<=n*s_:=fj _ a
 grind
section ops
variable {K:Ctx}{s:S}{d:Option Tmp}{ty:bM}{pos:String}{af:Array Edge}{g:Option (Nat×Bool)}
variable {t:bM}{u:gF}{z:bm}{s_ bytes:Nat}
theorem US(k:Nat)(hk:s.u k=ao)(l c:ct)(e:bM)(m:Nat)(n:List T)(cN: ∀i,d=Y i->ey i K.nt=I)(hu:K.P.underlying t=Y (.slice e))(he:db K.P e u z s_ bytes)
  (dm:s.get l= .t (.int .i64 (m:Nat))) (ch:s.get c= .t (.int .i64 (m:Nat))) (fo:(js z).cs=n.map .t) (L:(js z).val=I) (hs:cP (U n) s_=I) (q:ey 0 s_=I) (hm:m*bytes<=281474976710656) (yv:m<=9223372036854775807):
  fe K ⟨d,.makeSlice t l c,ty,pos,af,g⟩ s ((s.new k (.arr e 1 s_ (en m n))).put d (.bE k 1 s_ 0 m)):=by
 intro R a w next Q f p
 have W:=f.get l;rw[dm] at W;have X:=f.get c;rw[ch] at X;have W:=eQ W;have X:=eQ X;have r:=eg hs;have hp:0<s_:=by simpa[Nat.blt_eq] using q
 obtain⟨c1,c2⟩:=(Dq R w (own K R s.H) z).cells L;have A:z.cells.size=s_:=by rw[c1,fo];simpa using r
 have B:(cE a.eval ⟨d,.makeSlice t l c,ty,pos,af,g⟩).run K.P w= .ok (.value (.slice (Y ⟨w.heap.size,0,al⟩) m m)) (w.alloc (.cells ((Array.range (m*s_)).map (z.cells[· %z.cells.size]!)) e)):=by
  obtain⟨_,i,v,M,N,tq⟩:=he;have br:(i.bytes:Int)*(m:Int)<=281474976710656:=by
   grind
  have:=run_make (P:=K.P) w t e i z hu v M .i64 .i64 m m O (iT _) br O;simp only[Int.toNat_natCast,N,madeCells] at this;simp only[cE,W,X,gE,this,gz];rfl
 unfold Oper.wp;rw[B];have C:=f.new k 1 hk ((Array.range (m*s_)).map (z.cells[· %z.cells.size]!)) e (.arr e 1 s_ (en m n)) λβ' j1 bZ hw dc V=>⟨dV _,Or.inr ⟨w.heap.size,_,dc,by subst hw;exact kY _ _,?_,?_,?_⟩⟩
 ·have jc:(w.alloc (.cells ((Array.range (m*s_)).map (z.cells[· %z.cells.size]!)) e)).heap.size=w.heap.size+1:=World.size_alloc ..;have hU:(w.alloc (.cells ((Array.range (m*s_)).map (z.cells[· %z.cells.size]!)) e)).shape? w.heap.size=Y (e,m*s_):=by unfold iV;rw[kY];simp
  have L:bI (R.put k (Y (Y w.heap.size,1))) (w.alloc (.cells ((Array.range (m*s_)).map (z.cells[· %z.cells.size]!)) e)) (own K (R.put k (Y (Y w.heap.size,1))) (s.new k (.arr e 1 s_ (en m n))).H) (.bE k 1 s_ 0 m)
    (.slice (Y ⟨w.heap.size,0*s_,al⟩) m m):= .bE k 1 s_ 0 m m w.heap.size (m*s_) e (dV _) (c6 _ _ _) (jc▸p7 _) hU (by rw[e6]) (dV _) (by unfold maxLen;omega)
  rw[jC] at L;exact p _ _ _ (C.put d cN L)
 ·simp
 ·intro row yA
  grind
 intro i j row x y b hj hy;rw[wS] at b;split at b
 ·rename_i akR;cases b;have o:j<s_:=by rw[<-r];exact(cI.1 hj).1
  have F:=qU akR o;simp only[Array.getElem?_map,Array.getElem?_range,F,if_true,ln,Option.some.injEq] at hy;have G:(i*s_+j)%z.cells.size=j:=by rw[A,Nat.add_comm,Nat.add_mul_mod_self_right,Nat.mod_eq_of_lt o]
  rw[G] at hy;have al3:z.cells[j]? =Y y:=by rw[<-hy];rw[getElem!_pos _ _ O];simp[A,o]
  have h3:=c2 j (.t x) y (by rw[fo,fG,hj];rfl) al3;have h4:=V _ _ h3;cases h4 with|t _ _ h=>exact h
 cases b
def Src(w:bY)(X:Nat->Prop)(c:Nat)(a:List (List T))(u:bm):Prop:=
 (u= .slice al 0 0/\a=[])\/ ∃(b e l:Nat) (k:List bm),u= .slice (Y ⟨b,e,al⟩) (U a) l/\(U k)=U a*c/\
  (∀(j:Nat) x,k[j]? =Y x->w.cell? ⟨b,e+j,al⟩=Y x)/\(∀x,x∈k->x.oneCell'=I)/\
  ∀(i j:Nat) (h:List T) (x:T) (y:bm),a[i]? =Y h->h[j]? =Y x->k[i*c+j]? =Y y->ei w X x y
theorem ei.lf{x:T}{u:bm}(h:ei w X x u):u.oneCell'=I:=by cases h<;>rfl
theorem EC{s_:Nat}{e:List (List T)}{u:bm}(h:bI β w X (.t (.bX e)) u)(L: ∀k,k∈e->U k=s_)(A:0<s_):
  Src w X s_ e u\/(e=[]/\ ∃a l,u= .slice a 0 l):=by
 cases h with
 |t _ _ h=>cases h with
  |iq a l=>exact .inr ⟨rfl,a,l,rfl⟩
  |bX _ b Q c l f br iy M n ch N=>
   by_cases B:e=[]
   ·subst B;exact .inr ⟨rfl,_,_,rfl⟩
   obtain⟨V,C⟩:=Dd e B;have R:c=s_:=by rw[<-n V C,L V C]
   subst R;refine .inl (.inr ⟨b,Q,l,(List.range (U e*c)).map λm=>f (m / c) (m%c),rfl,aZ,λj x q=>?_,λx hx=>?_,λi j k x y r W G=>?_⟩)
   ·rw[fG] at q;cases o:(List.range (U e*c))[j]? with
    |none=>rw[o] at q;cases q
    |some p=>
     rw[o] at q;have F:j<U e*c:=by simpa using (cI.1 o).1
     have v:p=j:=by rw[List.getElem?_range F] at o;cases o;rfl
     subst v;simp at q;rw[<-q]
     have:=ch (p / c) (p%c) (by rw[zw A];exact F) (Nat.mod_lt _ A);rw[sg,Nat.mul_comm,Nat.div_add_mod] at this;exact this
   ·obtain⟨m,hm,rfl⟩:=fh.1 hx;have hm:=uy.1 hm;have r:m / c<U e:=by rw[zw A];exact hm
    have W:=Nat.mod_lt m A;have G:=n e[m / c] (gd r);exact(N (m / c) (m%c) e[m / c] (e[m / c])[m%c] (bO r) (bO O)).lf
   have q:j<c:=by rw[<-n k (ca r)];exact(cI.1 W).1
   have aO:=(cI.1 r).1;rw[fG,List.getElem?_range (qU aO q)] at G;simp at G;rw[<-G];have e1:(i*c+j) / c=i:=by rw[Nat.mul_comm,Nat.mul_add_div A,Nat.div_eq_of_lt q,uA]
   rw[e1,Nat.mod_eq_of_lt q];exact N i j k x r W
end ops
end
section
variable {G:Map}{k:Nat}{w:bY}
theorem UF{g_:Nat}(q:Option Nat)(c:Option Nat)(i:1<=g_)(h:G k=Y (q,g_)):fa G (G.put k (Y (c,g_+1))):=by
 intro id l m a;by_cases e:id=k
 ·subst e;rw[h] at a;cases a;exact .inr ⟨i,c,g_+1,d5 _ _ _,p7 _⟩
 exact .inl (by rw[gv _ _ _ _ e];exact a)
theorem Aw{K:Ctx}{s:S}{a:Act}(h:Rel K G s a w):Rel K G s a w.drew:=h.grow (Ext.drew _ _)
theorem E8{n s_:Nat}{rows news:List (List T)}(e o h:List bm)(q:U rows=n)(r:U e=n*s_)(H:U o=U news*s_)(C: ∀a,a∈rows->U a=s_)(w: ∀a,a∈news->U a=s_){R:T->bm->Prop}
  (L: ∀(i j:Nat) (a:List T) (x:T) (u:bm),rows[i]? =Y a->a[j]? =Y x->e[i*s_+j]? =Y u->R x u)
  (Q: ∀(i j:Nat) (a:List T) (x:T) (u:bm),news[i]? =Y a->a[j]? =Y x->o[i*s_+j]? =Y u->R x u):
  ∀(i j:Nat) (a:List T) (x:T) (u:bm),(rows++news)[i]? =Y a->a[j]? =Y x->(e++o++h)[i*s_+j]? =Y u->R x u:=by
 intro i j a x u k A F;by_cases l:i<U rows
 ·rw[ll l] at k;have c:j<s_:=by rw[<-C a (ca k)];exact(cI.1 A).1
  have m:i*s_+j<U e:=by rw[r,<-q];exact qU l c
  grind
 rw[lk O] at k;have c:j<s_:=by rw[<-w a (ca k)];exact(cI.1 A).1
 have y:=(cI.1 k).1;have m:=qU (s_:=s_) y c;have G:U e<=i*s_+j:=by rw[r,<-q];have:=fj s_ (O:U rows<=i);omega
 have B:i*s_+j-U e=(i-U rows)*s_+j:=by rw[r,<-q,Nat.sub_mul];have:=fj s_ (O:U rows<=i);omega
 grind
section ops
variable {K:Ctx}{s:S}{d:Option Tmp}{ty:bM}{pos:String}{af:Array Edge}{g:Option (Nat×Bool)}
variable {t:bM}{u:gF}{z:bm}{g_ s_ bytes:Nat}
def Rows(s_:Nat)(rows:List (List T)):Prop:= ∀a,a∈rows->U a=s_
theorem Rows.nil(s_:Nat):Rows s_ []:=λ_ h=>by simp at h
theorem Rows.map{k:Type}{s_:Nat}{f:k->List T}(l:List k)(h: ∀x,U (f x)=s_):Rows s_ (l.map f):=λa c=>by obtain⟨x,_,rfl⟩:=fh.1 c;exact h x
theorem Su(W:Nat->V)(k:Nat)(e:bM)(L:s.u k=ao)(n: ∀(i r:Map) (w:bY) (X f:Nat->Prop) (j:Nat) (u:bm),r k=Y (al,1)->(∀v u,bI i w X v u->bI r w f v u)->bI i w X (s.t j) u->bI r w f (W j) u):
  s.le K {t:=W,H:=bw s.H k (Y (.arr e 1 s_ [])),u:=bw s.u k I}:=by
 intro i a w h;have y:i k=al:=h.fw _ L;have o: ∀id x,i id=Y x->i.put k (Y (al,1)) id=Y x:=λid x B=>by
  rw[gv _ _ _ _ (by intro e;subst e;rw[y] at B;cases B)];exact B
 have C:=fa.of o;have l: ∀id b,At (i.put k (Y (al,1))) id b->id≠k/\At i id b:=λid b br=>by
  by_cases n:id=k
  ·subst n;rcases br with ⟨g,br⟩|br
   ·rw[d5] at br;cases br
   exact bu br (h.fS _ _ L)
  refine⟨n,?_⟩;rcases br with ⟨g,br⟩|br
  ·rw[gv _ _ _ _ n] at br;exact .inl ⟨g,br⟩
  exact .inr br
 have q: ∀b,own K (i.put k (Y (al,1))) (bw s.H k (Y (.arr e 1 s_ []))) b->own K i s.H b:=by
  rintro b (B|⟨id,A,F⟩)
  ·exact .inl B
  obtain⟨Q,p⟩:=l id b F;rw[cY _ _ _ _ Q] at A;exact .inr ⟨id,A,p⟩
 have R: ∀v u,bI i w (own K i s.H) v u->bI (i.put k (Y (al,1))) w (own K (i.put k (Y (al,1))) (bw s.H k (Y (.arr e 1 s_ [])))) v u:=
  λv u E=>E.mono (Ext.refl _ _) (λb _=>q b) C (Shaped.refl _ _)
 refine⟨i.put k (Y (al,1)),{h with base:= ?_,low:= ?_,fw:= ?_,fS:= ?_,inj:= ?_,fresh:= ?_,heap:= ?_,eE:= ?_}⟩
 ·refine h.base.keep λid hid=>?_
  have:=h.low id hid;rw[gv _ _ _ _ (by intro e;subst e;rw[L] at this;cases this)]
 ·intro id hid;show bw s.u k I id=I;by_cases e:id=k
  ·subst e;exact c6 _ _ _
  rw[cY _ _ _ _ e];exact h.low id hid
 ·intro id hid;have c:bw s.u k I id=ao:=hid;by_cases e:id=k
  ·subst e;rw[c6] at c;cases c
  rw[cY _ _ _ _ e] at c;rw[gv _ _ _ _ e];exact h.fw id c
 ·intro id b hid;have c:bw s.u k I id=ao:=hid;by_cases e:id=k
  ·subst e;rw[c6] at c;cases c
  rw[cY _ _ _ _ e] at c;exact h.fS id b c
 ·intro id G b A F;exact h.inj id G b (l id b A).2 (l G b F).2
 ·intro id b br;exact h.fresh id b (l id b br).2
 ·intro id e' m;have m:bw s.H k (Y (.arr e 1 s_ [])) id=Y e':=m;show bw s.u k I id=I/\dJ _ _ (own K _ (bw s.H k (Y (.arr e 1 s_ [])))) id e';by_cases n:id=k
  ·subst n;rw[c6] at m;cases m;exact⟨c6 _ _ _,dV _,Or.inl ⟨c6 _ _ _,rfl⟩⟩
  rw[cY _ _ _ _ n] at m;obtain⟨A,F⟩:=h.heap id e' m;exact⟨by rw[cY _ _ _ _ n];exact A,F.mono (Ext.refl _ _) (λb _=>q b) C (o id) (Shaped.refl _ _) λ_ _=>rfl⟩
 intro j;exact n i _ w _ _ j _ (c6 _ _ _) R (h.eE j)
theorem TT{V:Map}{X W:Nat->Prop}{i:Nat}{u:bm}(a:G k=Y (al,1))(h:bI V w X (.t .hd) u):bI G w W (.bE k 1 i 0 0) u:=by
 cases h with
 |t _ _ c=>cases c;exact .jh k 1 i (dV _) a
theorem ahm(i k:Nat)(e:bM)(l:s.u k=ao)(m:s.t i= .t .hd):s.le K {t:=bw s.t i (.bE k 1 s_ 0 0),H:=bw s.H k (Y (.arr e 1 s_ [])),u:=bw s.u k I}:=
 Su _ k e l (λq n w X r j u o a h=>by
  by_cases c:j=i
  ·subst c;rw[c6];rw[m] at h;exact TT o h
  rw[cY _ _ _ _ c];exact a _ _ h)
theorem afc(i j k:Nat)(e:bM){a:List V}(y:s.u k=ao)(A:s.t i= .agg a)(q:a[j]? =Y (.t .hd)):s.le K {t:=bw s.t i (.agg (a.set j (.bE k 1 s_ 0 0))),H:=bw s.H k (Y (.arr e 1 s_ [])),u:=bw s.u k I}:=
 Su _ k e y (λQ B w X R C u F l h=>by
  by_cases m:C=i
  ·subst m;rw[c6];rw[A] at h;cases h with|agg _ G L r=>
   refine .agg _ G (by simpa using L) λi c u o x=>?_;by_cases n:i=j
   ·subst n;rw[lN (cI.1 q).1] at o;cases o;exact TT F (r i _ u q x)
   rw[oK (Ne.symm n)] at o;exact l _ _ (r i c u o x)
  rw[cY _ _ _ _ m];exact l _ _ h)
theorem adr(x y:ct)(F i c:Nat)(e:bM)(o:List (List T))(l:List T)(m:List T)(hx:s.get x= .c' F g_ s_ i c){v:V}(hle:eP (s.get y) v)(hy:v.cs=m.map .t)(o6:v.val=I)(p:s.H F=Y (.arr e g_ s_ o)){B:Nat}(fB:db K.P t u z B bytes)
  (C:o[i]? =Y l) (hs:U m=B) (dm:c+B<=s_):
  fe K ⟨al,.store t x y,ty,pos,af,g⟩ s {s with H:=bw s.H F (Y (.arr e g_ s_ (o.set i (l.take c++m++l.drop (c+U m)))))}:=by
 intro β a w next Q X hk
 have E:=X.get x;rw[hx] at E;obtain⟨q,dR⟩:=nH (X.heap F _ p).2;obtain⟨b,mP,rJ⟩:=r0 E dR;subst mP;have br:=dR;have aO:=(cI.1 C).1;rcases(X.heap F _ p).2.2 with ⟨_,M⟩|⟨iG,A,h1,M,h3,h4,h5⟩
 ·rw[M] at aO;simp at aO
 rw[br] at h1;cases h1;obtain⟨c1,c2⟩:=(hle _ _ _ _ (X.get y)).cells o6;rw[hy] at c1 c2;have N:(a.eval y).cells.size=B:=by rw[c1];simpa using hs
 have hrl:U l=s_:=h4 l (ca C);have anQ:i*s_+s_<=A.size:=by
  have:(i+1)*s_<=U o*s_:=fj _ aO;rw[ft] at this;omega
 have ov: ∀e∈(a.eval y).cells.toList,e.oneCell'=I:=by
  intro e he;obtain⟨j,hj⟩:=mY.1 he;have hj':(a.eval y).cells[j]? =Y e:=by simpa using hj
  have hlt:j<U m:=by have:=(mm.1 hj').1;rw[c1] at this;simpa using this
  exact(c2 j (.t m[j]) e (by simp[hlt]) hj').lf rfl
 unfold Oper.wp;have BR:=IZ fB w b (i*s_+c) A e (a.eval y) M N O ov;have R:(cE a.eval ⟨al,.store t x y,ty,pos,af,g⟩).run K.P w= .ok .skip (w.setRow b (A.toList.take (i*s_+c)++(a.eval y).cells.toList++A.toList.drop (i*s_+c+U (a.eval y).cells.toList)).toArray):=by
  simp only[cE,rJ,Instr.storeAt,Instr.sureAddr,gE,jD,gz,BR]
 rw[R];have qG:U (a.eval y).cells.toList=U m:=by simp[c1]
 have G:U (A.toList.take (i*s_+c)++(a.eval y).cells.toList++A.toList.drop (i*s_+c+U (a.eval y).cells.toList))=A.size:=by
  simp[N];omega
 refine hk β _ _ (Rel.setRow X F b (.inl ⟨_,br⟩) A e M _ (by simpa using G) (.arr e g_ s_ (o.set i (l.take c++m++l.drop (c+U m)))) (by rw[p];simp) ?_);have mO:own K β s.H b:= .inr ⟨F,by rw[p];simp,.inl ⟨_,br⟩⟩;have W: ∀x u,ei w (own K β s.H) x u->ei (w.setRow b (A.toList.take (i*s_+c)++(a.eval y).cells.toList++A.toList.drop (i*s_+c+U (a.eval y).cells.toList)).toArray) (own K β s.H) x u:=by
  intro v u b0;exact b0.mono ⟨rfl,rfl,rfl,aZ,λk _ hx=>oR _ _ _ _ λe=>hx (e▸mO)⟩ λ_ _ h=>h
 have Wr:U (l.take c++m++l.drop (c+U m))=s_:=bV
 refine⟨(X.heap F _ p).2.1,Or.inr ⟨b,_,br,kS _ _ _ _ _ _ M,?_,?_,?_⟩⟩
 ·simp only[List.size_toArray,G,List.length_set];exact h3
 ·intro r alu;rcases zE alu with h|h
  ·exact h4 r h
  rw[h];exact Wr
 intro n j L lQ f aW a2 a3;apply W;have a3:(A.toList.take (i*s_+c)++(a.eval y).cells.toList++A.toList.drop (i*s_+c+U (a.eval y).cells.toList))[n*s_+j]? =Y f:=by simpa using a3
 simp only[List.getElem?_append,fH,mv,List.getElem?_take,List.getElem?_drop,Array.length_toList] at a3;rw[show min (i*s_+c) A.size=i*s_+c by omega,show(a.eval y).cells.size=U m by simpa using qG] at a3;by_cases BJ:n=i
 ·subst BJ;rw[lN aO] at aW;cases aW;have hjs:j<s_:=by rw[<-Wr];exact(cI.1 a2).1
  simp only[List.getElem?_append,fH,mv,List.getElem?_take,List.getElem?_drop,hrl] at a2;rw[show min c s_=c by omega] at a2;by_cases dQ:j<c
  ·rw[bk O,bk dQ,bk dQ] at a2;rw[bk O,bk O,bk O] at a3;exact h5 n j l lQ f C a2 (by simpa using a3)
  by_cases dG:j<c+U m
  ·rw[bk O,bh dQ] at a2;rw[bk O,bh O] at a3;rw[show n*s_+j-(n*s_+c)=j-c by omega] at a3;have h9:=c2 (j-c) (.t lQ) f (by rw[fG,a2];rfl) (by simpa using a3);cases h9 with|t _ _ h=>exact h
  rw[bh O] at a2;rw[bh O] at a3;rw[show c+U m+(j-(c+U m))=j by omega] at a2;rw[show n*s_+c+U m+(n*s_+j-(n*s_+c+U m))=n*s_+j by omega] at a3;exact h5 n j l lQ f C a2 (by simpa using a3)
 rw[oK (Ne.symm BJ)] at aW;have hjs:j<s_:=by rw[<-h4 L (ca aW)];exact(cI.1 a2).1
 have hold:A[n*s_+j]? =Y f:=by
  rcases Nat.lt_or_ge n i with hlt|jt
  ·have:n*s_+s_<=i*s_:=by have:=fj s_ (O:n+1<=i);rw[ft] at this;omega
   rw[bk O,bk O,bk O] at a3;simpa using a3
  have:i*s_+s_<=n*s_:=by have:=fj s_ (O:i+1<=n);rw[ft] at this;omega
  rw[bh O] at a3;rw[show i*s_+c+U m+(n*s_+j-(i*s_+c+U m))=n*s_+j by omega] at a3;simpa using a3
 exact h5 n j L lQ f aW a2 hold
end ops
end
section
variable {G β:Map}{w:bY}{X:Nat->Prop}{i m k b n:Nat}{a:Act}{e:bM}{hs:List (Nat×Nat×V)}
theorem xq{c:List ez}{g_:Nat}{a:List (List T)}{e:List (Nat×Nat×V)}(h:dJ G w X i (.bn c m g_ a e)): ∃q,G i=Y (q,g_):=by
 rcases h.2 with ⟨k,_⟩|⟨b,l,_,k,_⟩
 ·exact⟨_,k⟩
 exact⟨_,k⟩
def Map.drop(a:Map)(k:Nat):Map:=⟨a.f,λid b=>id≠k/\a.n id b⟩
theorem p3(h:At (G.drop k) i b):At G i b:=by
 rcases h with h|h
 ·exact .inl h
 exact .inr h.2
theorem Rel.drop{K:Ctx}{s:S}(h:Rel K β s a w)(k:Nat)(e':E)(y:s.H k≠al)
  (C:dJ (β.drop k) w (own K (β.drop k) (bw s.H k (Y e'))) k e'):Rel K (β.drop k) {s with H:=bw s.H k (Y e')} a w:=by
 have l: ∀b,own K (β.drop k) (bw s.H k (Y e')) b->own K β s.H b:=by
  rintro b (c|⟨id,m,o⟩)
  ·exact .inl c
  refine .inr ⟨id,λq=>?_,p3 o⟩;by_cases n:id=k
  ·subst n;exact y q
  rw[cY _ _ _ _ n] at m;exact m q
 have A:fa β (β.drop k):=λ_ _ _ c=> .inl c;refine {h with base:=λid hid=>h.base id hid,fw:=λid hid=>h.fw id hid,fS:=λid b hid r=>h.fS id b hid r.2,inj:=λid x b m o=>h.inj id x b (p3 m) (p3 o),fresh:=λid b r=>h.fresh id b (p3 r),heap:= ?_,eE:=λi=>(h.eE i).mono (Ext.refl _ _) (λb _=>l b) A (Shaped.refl _ _)};intro id e c;have c:bw s.H k (Y e') id=Y e:=c;by_cases n:id=k
 ·subst n;rw[c6] at c;cases c;cases B:s.H id with
  |none=>exact bu B y
  |some q=>exact⟨(h.heap id q B).1,C⟩
 rw[cY _ _ _ _ n] at c;obtain⟨m,o⟩:=h.heap id e c;exact⟨m,o.mono (Ext.refl _ _) (λb _=>l b) A (λ_ h=>h) (Shaped.refl _ _) (λ_ _=>rfl) λb=>⟨λh=>h.2,λh=>⟨n,h⟩⟩⟩
theorem Ky{K:Ctx}{s:S}(k:Nat){g_:Nat}{v:List (List T)}(l:List ez)(m:Nat)(A:s.H k=Y (.arr e g_ n v))(y:(ba l m).ty=e)(B:(ba l m).size=n)
  (C:v=[]\/(ba l m).rS=[]):s.le K {s with H:=bw s.H k (Y (.bn l m g_ v []))}:=by
 intro L a w h;refine⟨_,h.drop k (.bn l m g_ v []) (by rw[A];simp) ?_⟩;have o:=(h.heap k _ A).2;subst y;subst B;refine⟨o.1,?_⟩;have q: ∀b,own K (L.drop k) (bw s.H k (Y (.bn l m g_ v []))) b->own K L s.H b:=by
  rintro b (W|⟨id,y,B⟩)
  ·exact .inl W
  refine .inr ⟨id,λF=>?_,p3 B⟩;by_cases Q:id=k
  ·subst Q;rw[A] at F;cases F
  rw[cY _ _ _ _ Q] at y;exact y F
 rcases o.2 with ⟨aW,a2⟩|⟨b,X,aW,a2,a3,a4,a5⟩
 ·exact .inl ⟨aW,a2,λc r=>r.1 rfl⟩
 refine .inr ⟨b,X,λ_ _ _=>False,aW,a2,a3,a4,λi j G x u R f p=>Cell.of ?_,λ_ _ _ h=>h.elim,λ_ _ _ _ _ h=>h.elim,λc=>⟨λr=>bu rfl r.1,λ⟨_,_,r⟩=>r.elim⟩⟩;rcases C with rfl|C
 ·simp at R
 have:(ba l m).fc j=al:=by unfold ez.fc;rw[C];rfl
 rw[this];exact .ly _ _ _ ((a5 i j G x u R f p).mono (Ext.refl _ _) λb _=>q b) λ_ h=>h
theorem ae9{K:Ctx}{s:S}(k:Nat){n:List ez}{g_:Nat}{e:List (List T)}(C:s.H k=Y (.bn n m g_ e []))(y:eh K.e5 k=I):
  s.le K {s with H:=bw s.H k (Y (.arr (ba n m).ty g_ (ba n m).size e))}:=by
 have W:=fJ y;intro A a w h;refine⟨_,h.drop k (.arr (ba n m).ty g_ (ba n m).size e) (by rw[C];simp) ?_⟩;have o:=(h.heap k _ C).2;have q: ∀b,own K (A.drop k) (bw s.H k (Y (.arr (ba n m).ty g_ (ba n m).size e))) b->own K A s.H b:=by
  rintro b (r|⟨id,F,l⟩)
  ·exact .inl r
  refine .inr ⟨id,λG=>?_,p3 l⟩;by_cases R:id=k
  ·subst R;rw[C] at G;cases G
  rw[cY _ _ _ _ R] at F;exact F G
 refine⟨o.1,?_⟩;rcases o.2 with ⟨aW,a2,_⟩|⟨b,X,B,aW,a2,a3,a4,a5,kX,ko,gY⟩
 ·exact .inl ⟨aW,a2⟩
 refine .inr ⟨b,X,aW,a2,a3,a4,λi j L x u f p v=>(a5 i j L x u f p v).none.CT q ?_⟩;intro c M r;have y:At A k c:= .inr ((gY c).2 ⟨i,j,M⟩);rcases r with r|⟨id,F,l⟩
 ·obtain⟨gN,N⟩:=h.mu c r;rcases(h.fresh k c y).1 with Q|V
  ·exact N Q
  omega
 have:=h.inj _ _ _ (p3 l) y;subst this;rcases l with ⟨g,l⟩|l
 ·have h3:A id=Y (Y c,g):=l
  grind
 exact l.1 rfl
def Map.split(c:Map)(k a:Nat)(q:Option Nat)(N:Nat->Prop):Map:=
 ⟨λi=>bif cP i a then Y (q,1) else c i,λid b=>(id=a/\N b)\/(id=k/\id≠a/\c.n k b/\ ¬N b/\q≠Y b)\/(id≠a/\id≠k/\c.n id b)⟩
theorem T4(h:i≠k):cP i k=ao:=by
 cases a:cP i k with
 |false=>rfl
 |true=>exact bu (eg a) h
theorem zQ(c:Map)(k a:Nat)(q:Option Nat)(N:Nat->Prop):c.split k a q N a=Y (q,1):=by simp[Map.split]
theorem ze(a:Map)(k c:Nat)(q:Option Nat)(N:Nat->Prop)(id:Nat)(h:id≠c):a.split k c q N id=a id:=by simp[Map.split,T4 h]
theorem agb{G:Map}{k L:Nat}{q:Option Nat}{N:Nat->Prop}(o: ∀b,q=Y b->G.n k b)(r: ∀b,N b->G.n k b){i b:Nat}(h:At (G.split k L q N) i b):
  (i=L/\G.n k b/\(q=Y b\/N b))\/(i≠L/\At G i b/\(i=k->(∃g,G k=Y (Y b,g))\/(¬N b/\q≠Y b))):=by
 rcases h with ⟨g,h⟩|⟨rfl,h⟩|⟨rfl,a,c,l,w⟩|⟨a,c,l⟩
 ·by_cases m:i=L
  ·subst m;rw[zQ] at h;cases h;exact .inl ⟨rfl,o _ rfl,.inl rfl⟩
  rw[ze _ _ _ _ _ _ m] at h;exact .inr ⟨m,.inl ⟨g,h⟩,λe=> .inl ⟨g,e▸h⟩⟩
 ·exact .inl ⟨rfl,r b h,.inr h⟩
 ·exact .inr ⟨a,.inr c,λ_=> .inr ⟨l,w⟩⟩
 exact .inr ⟨a,.inr l,λe=>bu e c⟩
theorem Rel.split{K:Ctx}{s:S}(h:Rel K β s a w)(k dn:Nat)(q:Option Nat)(N:Nat->Prop)(r y:E)(X:s.H k≠al)(R:s.u dn=ao)
  (dR: ∀b,q=Y b->β.n k b/\ ¬N b) (gV: ∀b,N b->β.n k b) (f: ∀b g,β k=Y (Y b,g)-> ¬β.n k b)
  (akB:(∀b,own K (β.split k dn q N) (bw (bw s.H k (Y r)) dn (Y y)) b->own K β s.H b)->dJ (β.split k dn q N) w (own K (β.split k dn q N) (bw (bw s.H k (Y r)) dn (Y y))) k r)
  (j:(∀b,own K (β.split k dn q N) (bw (bw s.H k (Y r)) dn (Y y)) b->own K β s.H b)->dJ (β.split k dn q N) w (own K (β.split k dn q N) (bw (bw s.H k (Y r)) dn (Y y))) dn y):
  Rel K (β.split k dn q N) {t:=s.t,H:=bw (bw s.H k (Y r)) dn (Y y),u:=bw s.u dn I} a w:=by
 have p:s.u k=I:=by
  cases T:s.H k with
  |none=>exact bu T X
  |some W=>exact(h.heap k W T).1
 have hne:k≠dn:=by intro e;subst e;rw[p] at R;cases R
 have A:= @agb β k dn q N (λb L=>(dR b L).1) gV;have o: ∀b,own K (β.split k dn q N) (bw (bw s.H k (Y r)) dn (Y y)) b->own K β s.H b:=by
  rintro b (l|⟨id,m,Q⟩)
  ·exact .inl l
  rcases A Q with ⟨_,v,_⟩|⟨v,h4,_⟩
  ·exact .inr ⟨k,X,.inr v⟩
  refine .inr ⟨id,λW=>?_,h4⟩;rw[cY _ _ _ _ v] at m;by_cases F:id=k
  ·subst F;exact X W
  rw[cY _ _ _ _ F] at m;exact m W
 have G:=h.fw dn R;have C: ∀id x,β id=Y x->β.split k dn q N id=Y x:=λid x l=>by
  rw[ze _ _ _ _ _ _ (by intro e;subst e;rw[G] at l;cases l)];exact l
 have V:fa β (β.split k dn q N):=fa.of C;refine {h with base:= ?_,low:= ?_,fw:= ?_,fS:= ?_,inj:= ?_,fresh:= ?_,heap:= ?_,eE:=λi=>(h.eE i).mono (Ext.refl _ _) (λb _=>o b) V (Shaped.refl _ _)}
 ·refine h.base.keep λid hid=>ze _ _ _ _ _ _ ?_;intro e;subst e;have:=h.low id hid;rw[R] at this;cases this
 ·intro id hid;show bw s.u dn I id=I;by_cases e:id=dn
  ·subst e;exact c6 _ _ _
  rw[cY _ _ _ _ e];exact h.low id hid
 ·intro id hid;have c:bw s.u dn I id=ao:=hid;by_cases e:id=dn
  ·subst e;rw[c6] at c;cases c
  rw[cY _ _ _ _ e] at c;rw[ze _ _ _ _ _ _ e];exact h.fw id c
 ·intro id b hid L;have c:bw s.u dn I id=ao:=hid;have e:id≠dn:=by intro e;subst e;rw[c6] at c;cases c
  rw[cY _ _ _ _ e] at c;rcases L with ⟨m,_⟩|⟨rfl,_,m,_⟩|⟨_,_,m⟩
  ·exact e m
  ·exact h.fS _ b c m
  exact h.fS id b c m
 ·intro id k9 b m Q;rcases A m with ⟨rfl,aW,a2⟩|⟨aW,a2,a3⟩<;>rcases A Q with ⟨c0,c1,M⟩|⟨c1,M,c3⟩
  ·exact c0.symm
  ·have:=h.inj _ _ b (.inr aW) M
   grind
  ·subst c0
   have:=h.inj _ _ b (.inr c1) a2
   grind
  exact h.inj _ _ b a2 M
 ·intro id b L;rcases A L with ⟨_,aW,_⟩|⟨_,a2,_⟩
  ·exact h.fresh k b (.inr aW)
  exact h.fresh id b a2
 intro id e l;have l:bw (bw s.H k (Y r)) dn (Y y) id=Y e:=l;show bw s.u dn I id=I/\dJ _ w (own K _ (bw (bw s.H k (Y r)) dn (Y y))) id e;by_cases F:id=dn
 ·subst F;rw[c6] at l;cases l;exact⟨c6 _ _ _,j o⟩
 rw[cY _ _ _ _ F] at l⊢;by_cases B:id=k
 ·subst B;rw[c6] at l;cases l
  grind
 rw[cY _ _ _ _ B] at l;obtain⟨m,Q⟩:=h.heap id e l;exact⟨m,Q.mono (Ext.refl _ _) (λb _=>o b) V (C id) (Shaped.refl _ _) (λ_ _=>rfl) (λb=>⟨λh=>by
  rcases h with ⟨h,_⟩|⟨h,_⟩|⟨_,_,h⟩
  ·exact bu h F
  ·exact bu h B
  exact h,λh=> .inr (.inr ⟨F,B,h⟩)⟩)⟩
def uI(j:Nat):List (Nat×Nat×V)->Bool
 | []=>I
 |h::a=> !(cP h.2.1 j)&&uI j a
theorem D1{j:Nat}: ∀{a:List (Nat×Nat×V)},uI j a=I-> ∀i v,(i,j,v)∉a
 | [],_,_,_,h=>by cases h
 |h::a,c,i,v,hm=>by
  simp only[uI,cJ,Bool.not_eq_true'] at c;rcases eN.1 hm with rfl|hm
  ·simp at c
  exact D1 c.2 i v hm
theorem aer{K:Ctx}{s:S}(k dn i j f:Nat){y:List ez}{g_:Nat}{A:List (List T)}{p:List T}{l:List (List T)}(hk:s.H k=Y (.bn y m g_ A hs))(hu:s.u dn=ao)
  (aO:A[i]? =Y p) (hj:p[j]? =Y (.bX l)) (hm:(ba y m).fc j=Y f) (M: ∀v,(i,j,v)∉hs):
  s.le K {t:=s.t,H:=bw (bw s.H k (Y (.bn y m g_ A ((i,j,.bE dn 1 (ba y f).size 0 (U l))::hs)))) dn (Y (.bn y f 1 l [])),u:=bw s.u dn I}:=by
 intro β a w h;have Ng:=(h.heap k _ hk).1;have L:k≠dn:=by intro e;subst e;rw[Ng] at hu;cases hu
 have jL:=(h.heap k _ hk).2;rcases jL.2 with ⟨aW,a2,_⟩|⟨b,us,B,aW,a2,a3,a4,a5,kX,ko,gY⟩
 ·rw[a2] at aO;simp at aO
 have hlt:=(cI.1 aO).1;have hjs:j<(ba y m).size:=by rw[<-a4 p (ca aO)];exact(cI.1 hj).1
 have yu:i*(ba y m).size+j<us.size:=by
  have:(i+1)*(ba y m).size<=U A*(ba y m).size:=fj _ hlt
  grind
 have r:=(a5 i j p _ us[i*(ba y m).size+j] aO hj (jQ yu)).2 λv=>M v;rw[hm] at r;have Q: ∀c g,β k=Y (Y c,g)-> ¬β.n k c:=by
  grind
 generalize aoF:us[i*(ba y m).size+j]=w7 at r
 -- the cell's value under the new map, and the rest of the rows
 have R: ∀(q:Option Nat) (N:Nat->Prop),(∀c,B i j c↔(q=Y c\/N c))->(∀(X:Nat->Prop),bI (β.split k dn q N) w X (.bE dn 1 (ba y f).size 0 (U l)) w7)->
   ∀X,(∀c,X c->own K β s.H c)->dJ (β.split k dn q N) w X k (.bn y m g_ A ((i,j,.bE dn 1 (ba y f).size 0 (U l))::hs)):=by
  intro q N gU b0 X iy;have hm':fa β (β.split k dn q N):=fa.of (λid x hx=>by
   have:id≠dn:=by intro e;subst e;rw[h.fw _ hu] at hx;cases hx
   rw[ze _ _ _ _ _ _ this];exact hx)
  refine⟨jL.1,.inr ⟨b,us,λC F c=>B C F c/\ ¬(C=i/\F=j),by rw[ze _ _ _ _ _ _ L];exact aW,a2,a3,a4,λC F G x u dQ dG fb=>⟨λv vP=>?_,λdc=>?_⟩,
   λC F c M=>kX C F c M.1,λi1 rN i2 kK c h1 h2=>ko _ _ _ _ c h1.1 h2.1,λc=>?_⟩⟩
  ·rcases eN.1 vP with e|vP
   ·simp only[Prod.mk.injEq] at e;obtain⟨rfl,rfl,rfl⟩:=e
    have:u=w7:=by
     rw[<-aoF];rw[jQ yu] at fb;exact(Option.some.inj fb).symm
    subst this;exact⟨b0 X,λc M=>M.2 ⟨rfl,rfl⟩⟩
   obtain⟨c1,c2⟩:=(a5 C F G x u dQ dG fb).1 v vP;exact⟨c1.mono (Ext.refl _ _) (λc _=>iy c) hm' (Shaped.refl _ _),λc hx=>c2 c hx.1⟩
  ·have ald: ¬(C=i/\F=j):=by rintro⟨rfl,rfl⟩;exact dc _ fi
   exact(((a5 C F G x u dQ dG fb).2 λv b0=>dc v (eT _ b0)).mono (Ext.refl _ _) (λc _=>iy c) λ_ _=>rfl).iff λc=>⟨λh=>h.1,λh=>⟨h,ald⟩⟩
  constructor
  ·rintro(⟨h1,_⟩|⟨_,_,h1,h2,h3⟩|⟨_,h1,_⟩)
   ·exact bu h1 L
   ·obtain⟨C,F,W⟩:=(gY c).1 h1;refine⟨C,F,W,?_⟩;rintro⟨rfl,rfl⟩;rcases(gU c).1 W with h4|h4
    ·exact h3 h4
    exact h2 h4
   exact bu rfl h1
  rintro⟨C,F,W,dc⟩;refine .inr (.inl ⟨rfl,L,(gY c).2 ⟨C,F,W⟩,λh4=>?_,λh4=>?_⟩)
  ·exact dc (ko _ _ _ _ c W ((gU c).2 (.inr h4)))
  exact dc (ko _ _ _ _ c W ((gU c).2 (.inl h4)))
 generalize V5:B i j=aoX at r R;cases r with
 |nil _ _ gV=>
  refine⟨_,h.split k dn al (λ_=>False) _ (.bn y f 1 [] []) (by rw[hk];simp) hu (λb W=>by cases W) (λ_ h=>h.elim) Q (λo=>R al (λ_=>False) (λc=>⟨λh=>bu h (gV c),λh=>by rcases h with h|h;cases h;exact h.elim⟩)
   (λX=> .jh dn 1 _ (dV _) (zQ _ _ _ _ _)) _ o) λo=>⟨dV _,.inl ⟨zQ _ _ _ _ _,rfl,λc M=>?_⟩⟩⟩
  rcases M with ⟨_,h⟩|⟨h,_⟩|⟨h,_⟩
  ·exact h
  ·exact L h.symm
  exact h rfl
 |own _ _ dG cap sc uO _ hw hs Nl dm jc cC gU cN gV=>
  have vK:β.n k dG:=(gY dG).2 ⟨i,j,by rw[V5];exact(gV dG).2 (.inl rfl)⟩;refine⟨_,h.split k dn (Y dG) (λc=> ∃i j,uO i j c) _ (.bn y f 1 l []) (by rw[hk];simp) hu (λb W=>by cases W;exact⟨vK,λ⟨C,F,o3⟩=>(gU C F _ o3).2.2 rfl⟩)
   (λc M=>(gY c).2 ⟨i,j,by rw[V5];exact(gV c).2 (.inr M)⟩) Q
   (λo=>R (Y dG) (λc=> ∃i j,uO i j c) (λc=>⟨λh=>by rcases(gV c).1 h with h|h;exact .inl (by rw[h]);exact .inr h,λh=>(gV c).2 (by rcases h with h|h;cases h;exact .inl rfl;exact .inr h)⟩)
    (λX=>?_) _ o) λo=>⟨dV _,.inr ⟨dG,sc,uO,zQ _ _ _ _ _,hw,by rw[hs];exact fj _ dm,jc,λC F G x u c1 c2 c3=>Cell.of ((cC C F G x u c1 c2 c3).mono (Ext.refl _ _) (λc _=>o c) λ_ _=>rfl),gU,cN,λc=>?_⟩⟩⟩
  ·have:=bI.bE (β:=β.split k dn (Y dG) λc=> ∃i j,uO i j c) (w:=w) (X:=X) dn 1 (ba y f).size 0 (U l) cap dG sc.size (ba y f).ty (dV _) (zQ _ _ _ _ _) (mm.1 hw).1 (by unfold iV;rw[hw]) (by rw[e6];exact hs.symm) dm Nl;rw[jC] at this;exact this
  constructor
  ·rintro(⟨_,h⟩|⟨h,_⟩|⟨h,_⟩)
   ·exact h
   ·exact bu h.symm L
   exact bu rfl h
  intro h;exact .inl ⟨rfl,h⟩
def Map.merge(a:Map)(k c g_:Nat):Map:=
 ⟨λi=>bif cP i c then Y (al,g_+1) else a i,λid b=>(id=k/\(a.n k b\/At a c b))\/(id≠k/\id≠c/\a.n id b)⟩
theorem RD(c:Map)(k a g_:Nat):c.merge k a g_ a=Y (al,g_+1):=by simp[Map.merge]
theorem zg(a:Map)(k c g_ id:Nat)(h:id≠c):a.merge k c g_ id=a id:=by simp[Map.merge,T4 h]
theorem af1{G:Map}{k i g_ n b:Nat}(a:k≠i)(h:At (G.merge k i g_) n b):n≠i/\(At G n b\/(n=k/\At G i b)):=by
 rcases h with ⟨g,h⟩|⟨rfl,h⟩|⟨m,e,l⟩
 ·by_cases c:n=i
  ·subst c;rw[RD] at h;cases h
  rw[zg _ _ _ _ _ c] at h;exact⟨c,.inl (.inl ⟨g,h⟩)⟩
 ·rcases h with h|h
  ·exact⟨a,.inl (.inr h)⟩
  exact⟨a,.inr ⟨rfl,h⟩⟩
 exact⟨e,.inl (.inr l)⟩
theorem Rel.merge{K:Ctx}{s:S}(h:Rel K β s a w)(k c g_:Nat)(q:Option Nat)(A:E)(v:s.H k≠al)(G:s.H c≠al)(X:k≠c)(N:K.e5<=c)(T:β c=Y (q,g_))(V:1<=g_)
  (akB:(∀b,own K (β.merge k c g_) (bw (bw s.H c al) k (Y A)) b->own K β s.H b)->fa β (β.merge k c g_)->dJ (β.merge k c g_) w (own K (β.merge k c g_) (bw (bw s.H c al) k (Y A))) k A):
  Rel K (β.merge k c g_) {t:=s.t,H:=bw (bw s.H c al) k (Y A),u:=s.u} a w:=by
 have f:s.u c=I:=by
  cases L:s.H c with
  |none=>exact bu L G
  |some C=>exact(h.heap c C L).1
 have Q:s.u k=I:=by
  cases L:s.H k with
  |none=>exact bu L v
  |some C=>exact(h.heap k C L).1
 have o:=fun {id b}=> @af1 β k c g_ id b X;have y: ∀b,own K (β.merge k c g_) (bw (bw s.H c al) k (Y A)) b->own K β s.H b:=by
  rintro b (m|⟨id,F,R⟩)
  ·exact .inl m
  obtain⟨j,B|⟨rfl,B⟩⟩:=o R
  ·refine .inr ⟨id,λC=>?_,B⟩;by_cases n:id=k
   ·subst n;exact v C
   rw[cY _ _ _ _ n,cY _ _ _ _ j] at F;exact F C
  exact .inr ⟨c,G,B⟩
 have M:fa β (β.merge k c g_):=by
  intro id oH g1 m;by_cases n:id=c
  ·subst n;rw[T] at m;cases m;exact .inr ⟨V,al,g_+1,RD _ _ _ _,p7 _⟩
  exact .inl (by rw[zg _ _ _ _ _ n];exact m)
 refine {h with base:= ?_,fw:= ?_,fS:= ?_,inj:= ?_,fresh:= ?_,heap:= ?_,eE:=λi=>(h.eE i).mono (Ext.refl _ _) (λb _=>y b) M (Shaped.refl _ _)}
 ·exact h.base.keep λid hid=>zg _ _ _ _ _ O
 ·intro id hid;have l:s.u id=ao:=hid;rw[zg _ _ _ _ _ (by intro e;subst e;rw[f] at l;cases l)];exact h.fw id l
 ·intro id b hid p;have l:s.u id=ao:=hid;rcases p with ⟨rfl,_⟩|⟨_,_,j⟩
  ·rw[Q] at l;cases l
  exact h.fS id b l j
 ·intro id k9 b F R;obtain⟨aW,a2|⟨rfl,a2⟩⟩:=o F<;>obtain⟨c1,W|⟨rfl,W⟩⟩:=o R
  ·exact h.inj _ _ b a2 W
  ·exact bu (h.inj _ _ b a2 W) aW
  ·exact bu (h.inj _ _ b W a2) c1
  rfl
 ·intro id b p;obtain⟨_,B|⟨_,B⟩⟩:=o p
  ·exact h.fresh id b B
  exact h.fresh c b B
 intro id e m;have m:bw (bw s.H c al) k (Y A) id=Y e:=m;show s.u id=I/\dJ _ w (own K _ (bw (bw s.H c al) k (Y A))) id e;by_cases n:id=k
 ·subst n;rw[c6] at m;cases m
  grind
 rw[cY _ _ _ _ n] at m;by_cases r:id=c
 ·subst r;rw[c6] at m;cases m
 rw[cY _ _ _ _ r] at m;obtain⟨F,R⟩:=h.heap id e m;exact⟨F,R.mono (Ext.refl _ _) (λb _=>y b) M (λx m=>by rw[zg _ _ _ _ _ r];exact m) (Shaped.refl _ _) (λ_ _=>rfl) (λb=>⟨λh=>by
  rcases h with ⟨h,_⟩|⟨_,_,h⟩
  ·exact bu h n
  exact h,λh=> .inr ⟨n,r,h⟩⟩)⟩
theorem ab1{K:Ctx}{s:S}(k L i j m2 iM z n:Nat){G:List ez}{g_:Nat}{y:List (List T)}{o:List T}{l:List (List T)}(hk:s.H k=Y (.bn G m g_ y ((i,j,.bE L iM z 0 n)::hs)))
  (qD:s.H L=Y (.bn G m2 iM l [])) (fo:z=(ba G m2).size) (dc:n=U l) (hne:k≠L) (pS:eh K.e5 L=I) (aO:y[i]? =Y o) (hm:(ba G m).fc j=Y m2) (BK:ey j (ba G m).size=I) (ch: ∀v,(i,j,v)∉hs):
  s.le K {t:=s.t,H:=bw (bw s.H L al) k (Y (.bn G m g_ (y.set i (o.set j (.bX l))) hs)),u:=s.u}:=by
 subst fo;subst dc;intro β a w h;have pS:=fJ pS;obtain⟨q,dR⟩:=xq (h.heap L _ qD).2;have jL:=(h.heap k _ hk).2;have W:=(h.heap L _ qD).2;refine⟨_,h.merge k L iM q (.bn G m g_ (y.set i (o.set j (.bX l))) hs) (by rw[hk];simp) (by rw[qD];simp) hne pS dR W.1 λX hm'=>⟨jL.1,?_⟩⟩;rcases jL.2 with ⟨aW,a2,_⟩|⟨b,us,B,aW,a2,a3,a4,a5,kX,ko,gY⟩
 ·rw[a2] at aO;simp at aO
 have hlt:=(cI.1 aO).1
 -- the blocks of the slice
 have alv:At β k b:= .inl ⟨_,aW⟩;have akZ: ∀(u:bm),bI β w (own K β s.H) (.bE L iM (ba G m2).size 0 (U l)) u->
   iX G w (own K (β.merge k L iM) (bw (bw s.H L al) k (Y (.bn G m g_ (y.set i (o.set j (.bX l))) hs)))) (Y m2) (.bX l) u (λc=>At β L c):=by
  intro u hu;rcases d6 hu dR with ⟨cap,dG,n2,kO,rfl,mP,hw,hU,rE,dm,Nl⟩|⟨mP,_,h0,rfl⟩
  ·subst mP;rcases W.2 with ⟨c1,_⟩|⟨fb,sc,uO,c1,c2,c3,c4,c5,j4,j5,iw⟩
   ·rw[dR] at c1;cases c1
   rw[dR] at c1;cases c1;rw[jC];have vO:sc.size=cap*(ba G m2).size:=by
    unfold iV at hU;rw[c2] at hU;simp at hU;rw[hU.2,<-rE,e6]
   refine .own m2 l dG cap sc uO _ c2 vO Nl dm c4 (λA C f x u d1 d2 d3=>(c5 A C f x u d1 d2 d3).none.mono (Ext.refl _ _) (λc _=>X c) λ_ _=>rfl) j4 j5 λc=>⟨?_,?_⟩
   ·rintro(⟨g,b9⟩|b9)
    ·rw[dR] at b9;cases b9;exact .inl rfl
    exact .inr ((iw c).1 b9)
   rintro(rfl|b9)
   ·exact .inl ⟨_,dR⟩
   exact .inr ((iw c).2 b9)
  subst mP
  have:l=[]:=oJ h0;subst this;refine .nil m2 _ λc ch=>?_;rcases ch with ⟨g,b9⟩|b9
  ·rw[dR] at b9;cases b9
  rcases W.2 with ⟨_,_,c3⟩|⟨fb,sc,uO,c1,_⟩
  ·exact c3 c b9
  rw[dR] at c1;cases c1
 have p: ∀c,At β L c-> ¬At β k c:=λc F R=>hne (h.inj _ _ c R F);have VY: ∀A C c,B A C c->At β k c:=λA C c ch=> .inr ((gY c).2 ⟨A,C,ch⟩);have hjs: ∀(x:T),o[j]? =Y x->j<(ba G m).size:=λx hx=>by rw[<-a4 o (ca aO)];exact(cI.1 hx).1
 have hrl:U o=(ba G m).size:=a4 o (ca aO);by_cases M:j<U o
 ·have yu:i*(ba G m).size+j<us.size:=by
   have:(i+1)*(ba G m).size<=U y*(ba G m).size:=fj _ hlt;rw[ft] at this;omega
  have M9:=a5 i j o o[j] us[i*(ba G m).size+j] aO (bO M) (jQ yu);obtain⟨vQ,aj4⟩:=M9.1 _ fi;refine .inr ⟨b,us,λA C c=>B A C c\/(A=i/\C=j/\At β L c),by rw[zg _ _ _ _ _ hne];exact aW,a2,by simpa using a3,?_,?_,?_,?_,?_⟩
  ·intro r cC;rcases zE cC with cC|rfl
   ·exact a4 r cC
   simpa using hrl
  ·intro A C f x u dQ dG fb;by_cases tr:A=i/\C=j
   ·obtain⟨rfl,rfl⟩:=tr;rw[lN hlt] at dQ;cases dQ;rw[lN M] at dG;cases dG;rw[jQ yu] at fb;cases fb;refine⟨λv b0=>bu b0 (ch v),λ_=>?_⟩;rw[hm];refine(akZ _ vQ).iff λc=>⟨λh=>?_,λh=> .inr ⟨rfl,rfl,h⟩⟩
    rcases h with h|⟨_,_,h⟩
    ·exact bu h (aj4 c)
    exact h
   have hold: ∃Q gX,y[A]? =Y Q/\Q[C]? =Y gX/\gX=x:=by
    by_cases BJ:A=i
    ·subst BJ;rw[lN hlt] at dQ;cases dQ;rw[oK (by intro e;exact tr ⟨rfl,e.symm⟩)] at dG;exact⟨o,x,aO,dG,rfl⟩
    rw[oK (Ne.symm BJ)] at dQ;exact⟨f,x,dQ,dG,rfl⟩
   obtain⟨Q,gX,d1,d2,rfl⟩:=hold;have vF:=a5 A C Q gX u d1 d2 fb;have Wg: ∀c,(B A C c\/(A=i/\C=j/\At β L c))↔B A C c:=λc=>⟨λh=>by
    rcases h with h|⟨F,R,_⟩
    ·exact h
    exact bu ⟨F,R⟩ tr,.inl⟩
   refine⟨λv b0=>?_,λdc=>?_⟩
   ·obtain⟨F,R⟩:=vF.1 v (eT _ b0);exact⟨F.mono (Ext.refl _ _) (λc _=>X c) hm' (Shaped.refl _ _),λc hx=>R c ((Wg c).1 hx)⟩
   refine((vF.2 λv b0=>?_).mono (Ext.refl _ _) (λc _=>X c) λ_ _=>rfl).iff Wg;rcases eN.1 b0 with e|b0
   ·cases e;exact tr ⟨rfl,rfl⟩
   exact dc v b0
  ·intro A C c N;rcases N with N|⟨rfl,rfl,N⟩
   ·simpa using kX A C c N
   refine⟨by simpa using hlt,O,λe=>?_⟩;subst e;exact p c N alv
  ·intro i1 rN i2 kK c F R;rcases F with F|⟨rfl,rfl,F⟩<;>rcases R with R|⟨rfl,rfl,R⟩
   ·exact ko _ _ _ _ c F R
   ·exact bu (VY _ _ c F) (p c R)
   ·exact bu (VY _ _ c R) (p c F)
   exact⟨rfl,rfl⟩
  intro c;constructor
  ·rintro(⟨_,F|F⟩|⟨F,_⟩)
   ·obtain⟨A,C,N⟩:=(gY c).1 F;exact⟨A,C,.inl N⟩
   ·exact⟨i,j,.inr ⟨rfl,rfl,F⟩⟩
   exact bu rfl F
  rintro⟨A,C,N|⟨_,_,N⟩⟩
  ·exact .inl ⟨rfl,.inl ((gY c).2 ⟨A,C,N⟩)⟩
  exact .inl ⟨rfl,.inr N⟩
 exact bu (by rw[hrl];simpa[Nat.blt_eq] using BK) M
theorem Rel.N'{K:Ctx}{s:S}(h:Rel K β s a w)(k:Nat)(e e':E)(r:s.H k=Y e)(y:dJ β w (own K β s.H) k e->dJ β w (own K β s.H) k e'):
  Rel K β {s with H:=bw s.H k (Y e')} a w:=by
 have c: ∀b,own K β (bw s.H k (Y e')) b->own K β s.H b:=by
  rintro b (l|⟨id,m,n⟩)
  ·exact .inl l
  refine .inr ⟨id,λq=>?_,n⟩;by_cases o:id=k
  ·subst o;rw[r] at q;cases q
  rw[cY _ _ _ _ o] at m;exact m q
 refine {h with heap:= ?_,eE:=λi=>(h.eE i).mono (Ext.refl _ _) (λb _=>c b) (fa.refl _) (Shaped.refl _ _)};intro id x l;have l:bw s.H k (Y e') id=Y x:=l;by_cases o:id=k
 ·subst o;rw[c6] at l;cases l;obtain⟨m,n⟩:=h.heap id e r;exact⟨m,(y n).mono (Ext.refl _ _) (λb _=>c b) (fa.refl _) (λ_ h=>h) (Shaped.refl _ _) λ_ _=>rfl⟩
 rw[cY _ _ _ _ o] at l;obtain⟨m,n⟩:=h.heap id x l;exact⟨m,n.mono (Ext.refl _ _) (λb _=>c b) (fa.refl _) (λ_ h=>h) (Shaped.refl _ _) λ_ _=>rfl⟩
theorem afa{K:Ctx}{s:S}(k i j:Nat){r:List ez}{g_:Nat}{c:List (List T)}{n:List T}{x:T}{y:List (Nat×Nat×V)}(G:s.H k=Y (.bn r m g_ c y))(A:c[i]? =Y n)(L:n[j]? =Y x)(Q:(ba r m).fc j=al)(R:uI j y=I):
  s.le K {s with H:=bw s.H k (Y (.bn r m g_ c ((i,j,.t x)::y)))}:=by
 intro W a w h;refine⟨W,h.N' k _ (.bn r m g_ c ((i,j,.t x)::y)) G λo=>?_⟩;refine⟨o.1,?_⟩;rcases o.2 with ⟨aW,a2,_⟩|⟨b,X,B,aW,a2,a3,a4,a5,kX,ko,gY⟩
 ·rw[a2] at A;simp at A
 refine .inr ⟨b,X,B,aW,a2,a3,a4,λf p q M u C F N=>?_,kX,ko,gY⟩;have l:=a5 f p q M u C F N;refine⟨λv b0=>?_,λdc=>l.2 λv b0=>dc v (eT _ b0)⟩;rcases eN.1 b0 with e|b0
 ·simp only[Prod.mk.injEq] at e;obtain⟨rfl,rfl,rfl⟩:=e;rw[A] at C;cases C;rw[L] at F;cases F
  have:=l.2 λv=>D1 R _ _;rw[Q] at this;cases this with|ly _ _ _ h gV=>exact⟨.t _ _ h,gV⟩
 exact l.1 v b0
theorem acB{K:Ctx}{s:S}(k i j:Nat){F:List ez}{g_:Nat}{n:List (List T)}{l:List T}{x:T}(hk:s.H k=Y (.bn F m g_ n ((i,j,.t x)::hs)))(G:n[i]? =Y l)(BK:ey j (ba F m).size=I)(hm:(ba F m).fc j=al)(ch:uI j hs=I):
  s.le K {s with H:=bw s.H k (Y (.bn F m g_ (n.set i (l.set j x)) hs))}:=by
 intro β a w h;refine⟨β,h.N' k _ (.bn F m g_ (n.set i (l.set j x)) hs) hk λQ=>?_⟩;refine⟨Q.1,?_⟩;rcases Q.2 with ⟨aW,a2,_⟩|⟨b,us,B,aW,a2,a3,a4,a5,kX,ko,gY⟩
 ·rw[a2] at G;simp at G
 have R:=(cI.1 G).1;have W:U l=(ba F m).size:=a4 l (ca G);have y:j<U l:=by rw[W];simpa[Nat.blt_eq] using BK
 refine .inr ⟨b,us,B,aW,a2,by simpa using a3,λr cC=>?_,λA C X lQ u L f fb=>?_,λA C c br=>by simpa using kX A C c br,ko,gY⟩
 ·rcases zE cC with cC|rfl
  ·exact a4 r cC
  simpa using W
 by_cases p:A=i/\C=j
 ·obtain⟨rfl,rfl⟩:=p;rw[lN R] at L;cases L;rw[lN y] at f;cases f;have q:=(a5 A C l l[C] u G (bO y) fb).1 _ fi;refine⟨λv b0=>bu b0 (D1 ch _ _),λ_=>?_⟩;rw[hm];obtain⟨h1,h2⟩:=q;cases h1 with|t _ _ h1=>exact .ly _ _ _ h1 h2
 have M: ∃o gX,n[A]? =Y o/\o[C]? =Y gX/\gX=lQ:=by
  by_cases N:A=i
  ·subst N;rw[lN R] at L;cases L;rw[oK (by intro e;exact p ⟨rfl,e.symm⟩)] at f;exact⟨l,lQ,G,f,rfl⟩
  rw[oK (Ne.symm N)] at L;exact⟨X,lQ,L,f,rfl⟩
 obtain⟨o,gX,d1,d2,rfl⟩:=M;have q:=a5 A C o gX u d1 d2 fb;refine⟨λv b0=>q.1 v (eT _ b0),λdc=>q.2 λv b0=>?_⟩
 grind
theorem aep{K:Ctx}{s:S}(k i j m2:Nat){C:List ez}{g_:Nat}{n:List (List T)}{l:List T}{N:List (Nat×Nat×V)}(hk:s.H k=Y (.bn C m g_ n ((i,j,.t .hd)::N)))(F:n[i]? =Y l)(BK:ey j (ba C m).size=I)(hm:(ba C m).fc j=Y m2)(ch:uI j N=I):
  s.le K {s with H:=bw s.H k (Y (.bn C m g_ (n.set i (l.set j (.bX []))) N))}:=by
 intro β a w h;refine⟨β,h.N' k _ (.bn C m g_ (n.set i (l.set j (.bX []))) N) hk λL=>?_⟩;refine⟨L.1,?_⟩;rcases L.2 with ⟨aW,a2,_⟩|⟨b,us,B,aW,a2,a3,a4,a5,kX,ko,gY⟩
 ·rw[a2] at F;simp at F
 have Q:=(cI.1 F).1;have R:U l=(ba C m).size:=a4 l (ca F);have x:j<U l:=by rw[R];simpa[Nat.blt_eq] using BK
 refine .inr ⟨b,us,B,aW,a2,by simpa using a3,λr cC=>?_,λy A W lQ u G X fb=>?_,λy A c br=>by simpa using kX y A c br,ko,gY⟩
 ·rcases zE cC with cC|rfl
  ·exact a4 r cC
  simpa using R
 by_cases f:y=i/\A=j
 ·obtain⟨rfl,rfl⟩:=f;rw[lN Q] at G;cases G;rw[lN x] at X;cases X;have q:=(a5 y A l l[A] u F (bO x) fb).1 _ fi;refine⟨λv b0=>bu b0 (D1 ch _ _),λ_=>?_⟩;rw[hm];obtain⟨h1,h2⟩:=q;cases h1 with|t _ _ h1=>cases h1 with|hd=>exact .nil _ _ h2
 have p: ∃o gX,n[y]? =Y o/\o[A]? =Y gX/\gX=lQ:=by
  by_cases M:y=i
  ·subst M;rw[lN Q] at G;cases G;rw[oK (by intro e;exact f ⟨rfl,e.symm⟩)] at X;exact⟨l,lQ,F,X,rfl⟩
  rw[oK (Ne.symm M)] at G;exact⟨W,lQ,G,X,rfl⟩
 obtain⟨o,gX,d1,d2,rfl⟩:=p;have q:=a5 y A o gX u d1 d2 fb;refine⟨λv b0=>q.1 v (eT _ b0),λdc=>q.2 λv b0=>?_⟩
 grind
theorem ae'{K:Ctx}{s:S}(k:Nat){W:List ez}{g_:Nat}{e:List (List T)}{F:List (Nat×Nat×V)}(l:List ez)(o:Nat)(Q:s.H k=Y (.bn W m g_ e F))(R:eh K.e5 k=I)
  (h1:(ba l o).ty=(ba W m).ty) (X:(ba l o).size=(ba W m).size) (h3:(ba l o).rS=[]):
  s.le K {s with H:=bw s.H k (Y (.bn l o g_ e F))}:=by
 have pS:=fJ R;have G: ∀j,(ba l o).fc j=al:=λj=>by unfold ez.fc;rw[h3];rfl
 intro C a w h;have y:=(h.heap k _ Q).2;have L:fa C (C.drop k):=λ_ _ _ A=> .inl A;rcases y.2 with ⟨aW,a2,a3⟩|⟨b,us,B,aW,a2,a3,a4,a5,kX,ko,gY⟩
 ·exact⟨_,h.drop k (.bn l o g_ e F) (by rw[Q];simp) ⟨y.1,.inl ⟨aW,a2,λc n=>n.1 rfl⟩⟩⟩
 refine⟨_,h.drop k (.bn l o g_ e F) (by rw[Q];simp) ⟨y.1,.inr ⟨b,us,λ_ _ _=>False,aW,by rw[h1];exact a2,by rw[X];exact a3,by rw[X];exact a4,?_,λ_ _ _ n=>n.elim,λ_ _ _ _ _ n=>n.elim,λc=>⟨λn=>(n.1 rfl).elim,λ⟨_,_,n⟩=>n.elim⟩⟩⟩⟩;intro i j f x u dQ dG fb;rw[X] at fb;have h5:=a5 i j f x u dQ dG fb;generalize iy:own K (C.drop k) (bw s.H k (Y (.bn l o g_ e F)))=j1;have q: ∀b,j1 b->own K C s.H b:=by
  subst iy;rintro b (A|⟨id,p,r⟩)
  ·exact .inl A
  refine .inr ⟨id,λM=>?_,p3 r⟩;by_cases aO:id=k
  ·subst aO;rw[Q] at M;cases M
  rw[cY _ _ _ _ aO] at p;exact p M
 refine⟨λv b0=>⟨(h5.1 v b0).1.mono (Ext.refl _ _) (λb _=>q b) L (Shaped.refl _ _),λ_ n=>n⟩,λN=>?_⟩;rw[G];refine .ly _ _ _ ((h5.2 N).CT q ?_) λ_ n=>n;intro c n A;subst iy;have R:At C k c:= .inr ((gY c).2 ⟨i,j,n⟩);rcases A with A|⟨id,p,r⟩
 ·obtain⟨gN,iU⟩:=h.mu c A;rcases(h.fresh k c R).1 with hlt|jt
  ·exact iU hlt
  omega
 have:=h.inj _ _ _ (p3 r) R;subst this;rcases r with ⟨g,r⟩|r
 ·have g3:C id=Y (Y c,g):=r
  grind
 exact r.1 rfl
def E.gen:E->Option Nat
 | .cells _=>al
 | .arr _ g _ _=>Y g
 | .bn _ _ g _ _=>Y g
theorem q7{g:Nat}{e:E}(h:dJ G w X i e)(c:e.gen=Y g):1<=g/\ ∃q,G i=Y (q,g):=by
 cases e with
 |cells cs=>cases c
 |arr ty l s_ a=>
  cases c;exact⟨h.1,by rcases h.2 with ⟨k,_⟩|⟨b,n,k,_⟩<;>exact⟨_,k⟩⟩
 |bn o m l a r=>
  cases c;exact⟨h.1,xq h⟩
theorem Rel.W5{K:Ctx}{s:S}(h:Rel K β s a w)(k:Nat)(e e':E)(g:Nat)(hk:s.H k=Y e)(b9:e.gen=Y g)(F:Array bm)(G:bM)
  (he: ∀(A:Map) (V:Nat->Prop) (L:bY),L=w.alloc (.cells F G)->A k=Y (Y w.heap.size,g+1)->(∀b,A.n k b↔β.n k b)->(∀v u,bI β w (own K β s.H) v u->bI A L V v u)->
   (∀x u,ei w (own K β s.H) x u->ei L V x u)->(∀Γ m x u N,(∀b,N b->β.n k b)->iX Γ w (own K β s.H) m x u N->iX Γ L V m x u N)->dJ A L V k e'):
  Rel K (β.put k (Y (Y w.heap.size,g+1))) {s with H:=bw s.H k (Y e')} a (w.alloc (.cells F G)):=by
 have c: ∀X,Ext X w (w.alloc (.cells F G)):=λX=>Ext.alloc X w _;have Q:s.u k=I:=(h.heap k _ hk).1;obtain⟨R,rY,W⟩:=q7 (h.heap k _ hk).2 b9;have l: ∀id b,At (β.put k (Y (Y w.heap.size,g+1))) id b->(id=k/\b=w.heap.size)\/At β id b:=λid b br=>by
  rcases br with ⟨g,br⟩|br
  ·by_cases r:id=k
   ·subst r;rw[d5] at br;cases br;exact .inl ⟨rfl,rfl⟩
   rw[gv _ _ _ _ r] at br;exact .inr (.inl ⟨g,br⟩)
  exact .inr (.inr br)
 have o: ∀b,b<w.heap.size->own K (β.put k (Y (Y w.heap.size,g+1))) (bw s.H k (Y e')) b->own K β s.H b:=by
  rintro b hlt (f|⟨id,C,j⟩)
  ·exact .inl f
  rcases l id b j with ⟨rfl,rfl⟩|B
  ·omega
  refine .inr ⟨id,λe0=>?_,B⟩;by_cases r:id=k
  ·subst r;rw[hk] at e0;cases e0
  rw[cY _ _ _ _ r] at C;exact C e0
 have p:Shaped β w (w.alloc (.cells F G)):=vY (c _);have M:=UF rY (Y w.heap.size) R W;have T: ∀v u,bI β w (own K β s.H) v u->bI (β.put k (Y (Y w.heap.size,g+1))) (w.alloc (.cells F G)) (own K (β.put k (Y (Y w.heap.size,g+1))) (bw s.H k (Y e'))) v u:=
  λv u b0=>b0.mono (c _) o M p
 refine {ext:=h.ext.trans ((c λ_=>False).weaken λ_ _ h=>h.elim),tn:=h.tn,tU:=h.tU,mu:=h.mu,yN:=h.yN,base:= ?_,j':=h.j'.ext h.ext.size (c _),low:=h.low,fw:= ?_,fS:=λid b hid=>h.fS id b hid,inj:= ?_,fresh:= ?_,heap:= ?_,eE:=λi=>T _ _ (h.eE i),nt:=h.nt,defers:=h.defers}
 ·exact h.base.grow k g rY (Y w.heap.size) W R (d5 _ _ _) (λb br=>by cases br;exact .inr h.ext.size) λid r=>gv _ _ _ _ r
 ·intro id hid;have y:s.u id=ao:=hid;by_cases e:id=k
  ·subst e;rw[Q] at y;cases y
  rw[gv _ _ _ _ e];exact h.fw id y
 ·intro id k9 b C j;rcases l id b C with ⟨rfl,rfl⟩|B<;>rcases l k9 _ j with ⟨rfl,e⟩|h4
  ·rfl
  ·have:=(h.fresh _ _ h4).2;omega
  ·subst e;have:=(h.fresh _ _ B).2;omega
  exact h.inj _ _ _ B h4
 ·intro id b br;rcases l id b br with ⟨rfl,rfl⟩|B
  ·exact⟨.inr h.ext.size,aZ⟩
  exact⟨(h.fresh _ _ B).1,by have:=(h.fresh _ _ B).2;simp;omega⟩
 intro id e2 q;have q:bw s.H k (Y e') id=Y e2:=q;show s.u id=I/\dJ _ _ (own K _ (bw s.H k (Y e'))) id e2;by_cases r:id=k
 ·subst r;rw[c6] at q;cases q;exact⟨Q,he _ _ _ rfl (d5 _ _ _) (λ_=>Iff.rfl) T (λx u f=>f.mono (c _) o) λΓ m x u N gV cC=>cC.mono (c _) o λb br=>heap_alloc _ _ _ (h.fresh id b (.inr (gV b br))).2⟩
 rw[cY _ _ _ _ r] at q;obtain⟨C,j⟩:=h.heap id e2 q;refine⟨C,j.mono (c _) o M (λx f=>by rw[gv _ _ _ _ r];exact f) p λb br=>heap_alloc _ _ _ (h.fresh id b br).2⟩
theorem Rel.MI{K:Ctx}{s:S}(h:Rel K β s a w)(k:Nat)(e e':E)(g:Nat)(q:Option Nat)(R:β k=Y (q,g))(B:1<=g)(p:s.H k=Y e)
  (M: ∀(y:Map) (W:Nat->Prop),y k=Y (q,g+1)->(∀b,y.n k b↔β.n k b)->(∀v u,bI β w (own K β s.H) v u->bI y w W v u)->(∀b,W b->own K β s.H b)->dJ y w W k e'):
  Rel K (β.put k (Y (q,g+1))) {s with H:=bw s.H k (Y e')} a w:=by
 have C:s.u k=I:=(h.heap k _ p).1;have c: ∀id b,At (β.put k (Y (q,g+1))) id b->At β id b:=λid b br=>by
  rcases br with ⟨g,br⟩|br
  ·by_cases m:id=k
   ·subst m;rw[d5] at br;cases br;exact .inl ⟨_,R⟩
   rw[gv _ _ _ _ m] at br;exact .inl ⟨g,br⟩
  exact .inr br
 have o: ∀b,own K (β.put k (Y (q,g+1))) (bw s.H k (Y e')) b->own K β s.H b:=by
  rintro b (X|⟨id,A,F⟩)
  ·exact .inl X
  refine .inr ⟨id,λf=>?_,c id b F⟩;by_cases m:id=k
  ·subst m;rw[p] at f;cases f
  rw[cY _ _ _ _ m] at A;exact A f
 have G:=UF q q B R;have L: ∀v u,bI β w (own K β s.H) v u->bI (β.put k (Y (q,g+1))) w (own K (β.put k (Y (q,g+1))) (bw s.H k (Y e'))) v u:=λv u N=>N.mono (Ext.refl _ _) (λb _=>o b) G (Shaped.refl _ _);refine {h with base:= ?_,fw:= ?_,inj:= ?_,fresh:=λid b br=>h.fresh id b (c id b br),heap:= ?_,eE:=λi=>L _ _ (h.eE i)}
 ·exact h.base.grow k g q q R B (c6 _ _ _) (λb br=> .inl br) λid m=>gv _ _ _ _ m
 ·intro id hid;have r:s.u id=ao:=hid;by_cases e:id=k
  ·subst e;rw[C] at r;cases r
  rw[gv _ _ _ _ e];exact h.fw id r
 ·intro id Q b A F;exact h.inj id Q b (c id b A) (c Q b F)
 intro id j l;have l:bw s.H k (Y e') id=Y j:=l;show s.u id=I/\dJ _ _ (own K _ (bw s.H k (Y e'))) id j;by_cases m:id=k
 ·subst m;rw[c6] at l;cases l;exact⟨C,M _ _ (d5 _ _ _) (λ_=>Iff.rfl) L o⟩
 rw[cY _ _ _ _ m] at l;obtain⟨A,F⟩:=h.heap id j l;exact⟨A,F.mono (Ext.refl _ _) (λb _=>o b) G (λx X=>by rw[gv _ _ _ _ m];exact X) (Shaped.refl _ _) λ_ _=>rfl⟩
theorem aes{s_:Nat}{a c:List (List T)}(q r k:List bm)(B:U a=n)(C:U q=n*s_)(L:U r=U c*s_)(F: ∀e,e∈a->U e=s_)(w: ∀e,e∈c->U e=s_){R:Nat->Nat->T->bm->Prop}
  (Q: ∀(i j:Nat) (e:List T) (x:T) (u:bm),a[i]? =Y e->e[j]? =Y x->q[i*s_+j]? =Y u->R i j x u)
  (W: ∀(i j:Nat) (e:List T) (x:T) (u:bm),c[i]? =Y e->e[j]? =Y x->r[i*s_+j]? =Y u->R (n+i) j x u):
  ∀(i j:Nat) (e:List T) (x:T) (u:bm),(a++c)[i]? =Y e->e[j]? =Y x->(q++r++k)[i*s_+j]? =Y u->R i j x u:=by
 intro i j e x u l A G;by_cases m:i<U a
 ·rw[ll m] at l;have h:j<s_:=by rw[<-F e (ca l)];exact(cI.1 A).1
  have o:i*s_+j<U q:=by rw[C,<-B];exact qU m h
  grind
 rw[lk O] at l;have h:j<s_:=by rw[<-w e (ca l)];exact(cI.1 A).1
 have y:=(cI.1 l).1;have o:=qU (s_:=s_) y h
 grind
def ke(n:Nat):List (Nat×Nat×V)->List (Nat×Nat×V)
 | []=>[]
 |h::hs=>(n+h.1,h.2.1,h.2.2)::ke n hs
theorem EX{n:Nat}: ∀{hs:List (Nat×Nat×V)} {i j:Nat} {v:V},(i,j,v)∈ke n hs↔ ∃k,i=n+k/\(k,j,v)∈hs
 | [],_,_,_=>by simp[ke]
 |h::hs,i,j,v=>by
  simp only[ke,List.mem_cons,Prod.mk.injEq,EX (hs:=hs)];constructor
  ·rintro(⟨l,e,m⟩|⟨k,l,e⟩)
   ·exact⟨h.1,l,.inl (by obtain⟨a,b,c⟩:=h;cases e;cases m;rfl)⟩
   exact⟨k,l,.inr e⟩
  rintro⟨k,l,e|e⟩
  ·subst e;exact .inl ⟨l,rfl,rfl⟩
  exact .inr ⟨k,l,e⟩
def D6(n:Map)(w:bY)(X:Nat->Prop)(c:Nat)(a:List (List T))(m:List (Nat×Nat×V))(u:bm):Prop:=
 ∃(b e l:Nat) (k:List bm),u= .slice (Y ⟨b,e,al⟩) (U a) l/\(U k)=U a*c/\
  (∀(j:Nat) x,k[j]? =Y x->w.cell? ⟨b,e+j,al⟩=Y x)/\(∀x,x∈k->x.oneCell'=I)/\
  ∀(i j:Nat) (h:List T) (x:T) (y:bm),a[i]? =Y h->h[j]? =Y x->k[i*c+j]? =Y y->(∀v,(i,j,v)∈m->bI n w X v y)/\((∀v,(i,j,v)∉m)->ei w X x y)
def xA:List (Nat×Nat×V)->Bool
 | []=>I
 |h::a=>h.2.2.one&&xA a
theorem QP: ∀{a:List (Nat×Nat×V)} {i j:Nat} {v:V},xA a=I->(i,j,v)∈a->v.one=I
 | [],_,_,_,_,h=>by cases h
 |h::a,i,j,v,c,hm=>by
  simp only[xA,cJ] at c;rcases eN.1 hm with rfl|hm
  ·exact c.1
  exact QP c.2 hm
def uV(d:ez)(n:Nat)(a:List (Nat×Nat×V)):Bool:=
 (List.range n).all λi=>d.rS.all λp=>a.any λh=>cP h.1 i&&cP h.2.1 p.1
theorem RF: ∀{l:List (Nat×Nat)} {j m:Nat},xN l j=Y m->(j,m)∈l
 | [],_,_,h=>by cases h
 |p::l,j,m,h=>by
  simp only[xN] at h;cases a:cP p.1 j with
  |true=>rw[a] at h;cases h;rw[<-eg a];exact fi
  |false=>rw[a] at h;exact eT _ (RF h)
theorem Q'{d:ez}(h:uV d n hs=I){j:Nat}(e:i<n)(k:d.fc j=Y m): ∃v,(i,j,v)∈hs:=by
 have l:=hL.1 h i (uy.2 e);have o:=hL.1 l (j,m) (RF k);obtain⟨⟨a,b,v⟩,q,c⟩:=kA.1 o;simp only[cJ] at c;have r:=eg c.1;have w:=eg c.2
 grind
theorem D6.of{K:Ctx}{s:S}(h:Rel K β s a w){g:Nat}{l:List ez}{c:List (List T)}{A:List (Nat×Nat×V)}{u:bm}(hk:s.H k=Y (.bn l m g c A))(dc:n=U c)
  (hu:bI β w (own K β s.H) (.bE k g (ba l m).size 0 n) u) (hp:0<U c) (eI:xA A=I) (ch:uV (ba l m) (U c) A=I):D6 β w (own K β s.H) (ba l m).size c A u:=by
 subst dc;have f:=(h.heap k _ hk).2;rcases f.2 with ⟨_,G,_⟩|⟨b,us,B,aW,a2,a3,a4,a5,kX,ko,gY⟩
 ·rw[G] at hp;simp at hp
 rcases d6 hu aW with ⟨p,iG,NV,kO,rfl,M,hw,hU,rE,dm,hm⟩|⟨M,_⟩
 ·cases M;rw[jC];have C: ∀(i j:Nat) (o:List T) (x:T) (y:bm),c[i]? =Y o->o[j]? =Y x->us[i*(ba l m).size+j]? =Y y->
    (∀v,(i,j,v)∈A->bI β w (own K β s.H) v y)/\((∀v,(i,j,v)∉A)->ei w (own K β s.H) x y):=by
   intro i j o x y F G X;have L:=a5 i j o x y F G X;refine⟨λv q=>(L.1 v q).1,λQ=>?_⟩;have h6:=L.2 Q;have R:(ba l m).fc j=al:=by
    cases N:(ba l m).fc j with
    |none=>rfl
    |some aoI=>
     obtain⟨v,q⟩:=Q' ch (cI.1 F).1 N;exact bu q (Q v)
   rw[R] at h6;cases h6 with|ly _ _ _ h _=>exact h
  refine⟨b,0,p,us.toList.take (U c*(ba l m).size),rfl,bV,λj x r=>?_,λx hx=>?_,λi j o x y F G X=>?_⟩
  ·rw[iC] at r;split at r
   ·simp only[World.cell?,a2,Nat.zero_add];simpa using r
   cases r
  ·obtain⟨j,r⟩:=mY.1 hx;rw[iC] at r;split at r
   ·rename_i W;have fo:0<(ba l m).size:=Nat.pos_of_ne_zero λe=>by rw[e] at W;omega
    have F:j / (ba l m).size<U c:=by rw[zw fo];exact W
    have G:=Nat.mod_lt j fo;have X:=a4 _ (gd F);have he:j / (ba l m).size*(ba l m).size+j%(ba l m).size=j:=by rw[Nat.mul_comm];exact Nat.div_add_mod ..
    obtain⟨c1,c2⟩:=C (j / (ba l m).size) (j%(ba l m).size) _ _ x (bO F) (bO (by omega:j%(ba l m).size<U (c[j / (ba l m).size]))) (by rw[he];simpa using r);by_cases q: ∃v,(j / (ba l m).size,j%(ba l m).size,v)∈A
    ·obtain⟨v,q⟩:=q;exact(c1 v q).lf (QP eI q)
    exact(c2 λv vP=>q ⟨v,vP⟩).lf
   cases r
  rw[iC] at X
  grind
 cases M
theorem Rel.MF{K:Ctx}{s:S}{t:bM}{u:gF}{z:bm}{g_ s_ bytes:Nat}(h:Rel K β s a w)(k:Nat)(A:List ez)(m:Nat)(l o:List (List T))(F:List (Nat×Nat×V))(hk:s.H k=Y (.bn A m g_ l []))(pQ:(ba A m).size=s_)(pP:(ba A m).ty=e)(ty:bM)
  (hu:K.P.underlying t=Y (.slice e)) (he:db K.P e u z s_ bytes) (tz:z.cells.size=s_) (hs: ∀r,r∈l->U r=s_) (rG: ∀r,r∈o->U r=s_) (v x:bm) (b0:bI β w (own K β s.H) (.bE k g_ s_ 0 (U l)) v)
  (hx:D6 β w (own K β s.H) s_ o F x) (Wv:0<U o) (akw:uV (ba A m) (U o) F=I) (br:(U l+U o)*bytes<=140737488355328) (hm:U l+U o<=maxLen):
  ∃fr bZ G,(Builtin.append_ #[t,t] ty #[v,x]).run K.P w= .ok fr bZ/\Rel K G {s with H:=bw s.H k (Y (.bn A m (g_+1) (l++o) (ke (U l) F)))} a bZ/\
   bI G bZ (own K G (bw s.H k (Y (.bn A m (g_+1) (l++o) (ke (U l) F))))) (.bE k (g_+1) s_ 0 (U l+U o)) fr:=by
 subst pQ;subst pP;obtain⟨q,dR⟩:=xq (h.heap k _ hk).2;have l3:=(h.heap k _ hk).2.1;obtain⟨_,i,pR,hi2,l4,tq⟩:=id he;have hm':U l+U o<=9223372036854775807:=by unfold maxLen at hm;omega
 have k6:=(h.heap k _ hk).2.2;have WC: ∀r,r∈l++o->U r=(ba A m).size:=λr yA=>by
  rcases fy.1 yA with h|h
  ·exact hs r h
  exact rG r h
 obtain⟨dG,off,GB,f,rJ,qG,Nv,qF,hwr⟩:=hx;have Nw: ∀j y,f[j]? =Y y->w.cell? ((⟨dG,off,al⟩:Addr).add j)=Y y:=λj y hy=>by rw[l2];exact Nv j y hy
 have o4:(U l+U o)*i.bytes<=140737488355328:=by rw[tq];exact br
 have ak0: ∀i j,i<U o->(∀v,(i,j,v)∉F)->(ba A m).fc j=al:=λi j aO mR=>by
  cases hkk:(ba A m).fc j with
  |none=>rfl
  |some aoI=>
   obtain⟨v,b0⟩:=Q' akw aO hkk;exact bu b0 (mR v)
 -- the cells of old and new rows, in whatever world
 have Wb: ∀(B:Nat->Nat->Nat->Prop) (G:Map) (bZ:bY) (j1:Nat->Prop),(∀v u,bI β w (own K β s.H) v u->bI G bZ j1 v u)->(∀x u,ei w (own K β s.H) x u->ei bZ j1 x u)->
   (∀i j c,B i j c->i<U l)-> ∀(M rest:List bm),U M=U l*(ba A m).size->
   (∀(i j:Nat) (r:List T) (x:T) (u:bm),l[i]? =Y r->r[j]? =Y x->M[i*(ba A m).size+j]? =Y u->iX A bZ j1 ((ba A m).fc j) x u (B i j))->
   ∀(i j:Nat) (r:List T) (x:T) (u:bm),(l++o)[i]? =Y r->r[j]? =Y x->(M++f++rest)[i*(ba A m).size+j]? =Y u->Cell A m (ke (U l) F) G bZ j1 i j x u (B i j):=by
  intro B G bZ j1 ow tv gU M rest o5 vL;refine aes M f rest rfl o5 qG hs rG (R:=λi j x u=>Cell A m (ke (U l) F) G bZ j1 i j x u (B i j)) (λi j r x u h1 h2 h3=>⟨λv b0=>?_,λ_=>vL i j r x u h1 h2 h3⟩) λi j r x u h1 h2 h3=>⟨λv b0=>?_,λmR=>?_⟩
  ·obtain⟨ju,e1,_⟩:=EX.1 b0
   have:=(cI.1 h1).1;omega
  ·obtain⟨ju,e1,e2⟩:=EX.1 b0
   have:ju=i:=O
   subst this;exact⟨ow _ _ ((hwr ju j r x u h1 h2 h3).1 v e2),λc Q=>by have:=gU _ _ _ Q;omega⟩
  have Ws: ∀v,(i,j,v)∉F:=λv b0=>mR v (EX.2 ⟨i,rfl,b0⟩);rw[ak0 i j (cI.1 h1).1 Ws];exact .ly _ _ _ (tv _ _ ((hwr i j r x u h1 h2 h3).2 Ws)) (λc Q=>by have:=gU _ _ _ Q;omega)
 -- a new block
 have finish: ∀(B:Nat->Nat->Nat->Prop) (M:List bm) (C:Nat),U M=U l*(ba A m).size->U l+U o<=C->C<=maxLen->
   (∀(i j:Nat) (r:List T) (x:T) (u:bm),l[i]? =Y r->r[j]? =Y x->M[i*(ba A m).size+j]? =Y u->iX A w (own K β s.H) ((ba A m).fc j) x u (B i j))->
   (∀i j c,B i j c->i<U l/\j<(ba A m).size)->(∀i j ju fx c,B i j c->B ju fx c->i=ju/\j=fx)->(∀c,β.n k c↔ ∃i j,B i j c)->
   ∃G,Rel K G {s with H:=bw s.H k (Y (.bn A m (g_+1) (l++o) (ke (U l) F)))} a (w.drew.alloc (.cells (M.toArray++f.toArray++fL z.cells (C-(U l+U o))) (ba A m).ty))/\
    bI G (w.drew.alloc (.cells (M.toArray++f.toArray++fL z.cells (C-(U l+U o))) (ba A m).ty)) (own K G (bw s.H k (Y (.bn A m (g_+1) (l++o) (ke (U l) F))))) (.bE k (g_+1) (ba A m).size 0 (U l+U o)) (.slice (Y ⟨w.heap.size,0,al⟩) (U l+U o) C):=by
  intro B M C o5 Wa hcm alN gU cN gV;have BT:(M.toArray++f.toArray++fL z.cells (C-(U l+U o))).size=C*(ba A m).size:=by
   simp only[Array.size_append,List.size_toArray,size_zeroCells,tz,o5,qG,<-Nat.add_mul];congr 1;omega
  have yr:=Aw h;have BN:=yr.W5 k _ (.bn A m (g_+1) (l++o) (ke (U l) F)) g_ hk rfl (M.toArray++f.toArray++fL z.cells (C-(U l+U o))) (ba A m).ty
   (λG j1 bZ hw' NC dc ow tv vL=>⟨O,.inr ⟨w.heap.size,_,B,NC,by subst hw';exact kY w.drew _,by rw[BT,ea];exact fj _ Wa,WC,
    λi j r x u aW a2 a3=>Wb B G bZ j1 (λv u Nt=>ow v u (Nt.mono (Ext.drew _ _) (λ_ _ h=>h) (fa.refl _) (vY (Ext.drew _ _)))) (λx u Nz=>tv x u (Nz.mono (Ext.drew _ _) λ_ _ h=>h)) (λi j c Q=>(gU i j c Q).1) M (fL z.cells (C-(U l+U o))).toList o5
     (λi j r x u dQ dG fb=>vL A _ x u (B i j) (λc Q=>(gV c).2 ⟨i,j,Q⟩) ((alN i j r x u dQ dG fb).mono (Ext.drew _ _) (λ_ _ h=>h) λ_ _=>rfl)) i j r x u aW a2 (by simpa[<-Array.getElem?_toList] using a3),
    λi j c Q=>⟨by have:=(gU i j c Q).1;rw[ea];omega,(gU i j c Q).2,λe0=>by have:=(h.fresh k c (.inr ((gV c).2 ⟨i,j,Q⟩))).2;rw[e0] at this;exact Nat.lt_irrefl _ this⟩,cN,λc=>(dc c).trans (gV c)⟩⟩)
  refine⟨_,BN,?_⟩;have ny:bI (β.put k (Y (Y w.heap.size,g_+1))) (w.drew.alloc (.cells (M.toArray++f.toArray++fL z.cells (C-(U l+U o))) (ba A m).ty)) (own K (β.put k (Y (Y w.heap.size,g_+1))) (bw s.H k (Y (.bn A m (g_+1) (l++o) (ke (U l) F))))) (.bE k (g_+1) (ba A m).size 0 (U l+U o)) (.slice (Y ⟨w.heap.size,0*(ba A m).size,al⟩) (U l+U o) C):=by
   have yw:=kY w.drew (.cells (M.toArray++f.toArray++fL z.cells (C-(U l+U o))) (ba A m).ty);refine .bE k (g_+1) (ba A m).size 0 _ C w.heap.size (C*(ba A m).size) (ba A m).ty O (c6 _ _ _) aZ ?_ (by rw[e6]) Wa hcm;have alc:(w.drew.alloc (.cells (M.toArray++f.toArray++fL z.cells (C-(U l+U o))) (ba A m).ty)).heap[w.heap.size]? =Y (.cells (M.toArray++f.toArray++fL z.cells (C-(U l+U o))) (ba A m).ty):=yw;unfold iV;rw[alc];simp only[BT]
  rw[jC] at ny;exact ny
 subst rJ;rcases d6 b0 dR with ⟨p,b,n,kO,rfl,mO,hw,hU,rE,dm,rD⟩|⟨mO,_,ak4,rfl⟩
 rotate_left
 ·have yx:l=[]:=oJ ak4;subst yx;have X:=run_append_nil (P:=K.P) w t ty (ba A m).ty i z hu pR hi2 ⟨dG,off,al⟩ (U o) GB f (by rw[l4];exact qG) Nw Wv O (by simp at o4;omega);subst mO;have ale: ∀c,¬β.n k c:=by
   rcases k6 with ⟨_,_,h0⟩|⟨b,M,B,h1,_⟩
   ·exact h0
   rw[dR] at h1;cases h1
  obtain⟨G,f1,f2⟩:=finish (λ_ _ _=>False) [] (grownCap w (U o) 0 (ba A m).ty) aZ (by simpa using grownCap_ge w (U o) 0 (ba A m).ty) (DA w _ 0 (ba A m).ty (by unfold maxLen;simp at hm';omega)) (λi j r x u h1 _ _=>by simp at h1)
   (λ_ _ _ h=>h.elim) (λ_ _ _ _ _ h=>h.elim) λc=>⟨λQ=>bu Q (ale c),λ⟨_,_,h⟩=>h.elim⟩
  simp only[ho,Nat.zero_add] at f1 f2⊢;exact⟨_,_,G,by rw[X];simp,f1,f2⟩
 subst mO;rcases k6 with ⟨g1,_⟩|⟨iG,L,B,g1,g2,g3,g4,g5,g6,g7,g8⟩
 ·rw[dR] at g1;cases g1
 rw[dR] at g1;cases g1;have ry:L.size=p*(ba A m).size:=by
  unfold iV at hU;rw[g2] at hU;simp at hU;rw[<-rE] at hU;rw[e6] at hU;exact hU.2
 have Ns:U (L.toList.take (U l*(ba A m).size))=U l*(ba A m).size:=bV
 have tv: ∀(i j:Nat) (r:List T) (x:T) (u:bm),l[i]? =Y r->r[j]? =Y x->(L.toList.take (U l*(ba A m).size))[i*(ba A m).size+j]? =Y u->iX A w (own K β s.H) ((ba A m).fc j) x u (B i j):=by
  intro i j r x u h1 h2 h3;rw[iC] at h3;split at h3
  ·exact(g5 i j r x u h1 h2 (by simpa using h3)).none
  cases h3
 simp only[Nat.zero_mul];by_cases N:U l+U o<=p
 ·have rA:U l*(ba A m).size+U f<=L.size:=by rw[qG,ry,<-ft];exact fj _ N
  have X:=run_append_room (P:=K.P) w t ty (ba A m).ty i hu pR b (U l) p L g2 ⟨dG,off,al⟩ (U o) GB f (by rw[l4];exact qG) Nw qF N (by rw[l4];exact rA);rw[l4] at X;have vN:(L.toList.take (U l*(ba A m).size)++f++L.toList.drop (U l*(ba A m).size+U f)).toArray.size=L.size:=by
   simp;omega
  generalize lB:w.setRow b (L.toList.take (U l*(ba A m).size)++f++L.toList.drop (U l*(ba A m).size+U f)).toArray=W at X;have BP:own K β s.H b:= .inr ⟨k,by rw[hk];simp,.inl ⟨_,dR⟩⟩;have Na:Ext (own K β s.H) w W:=by
   subst lB;exact⟨rfl,rfl,rfl,aZ,λkk _ hx=>oR _ _ _ _ λe0=>hx (e0▸BP)⟩
  have alE:Shaped β w W:=by subst lB;intro iG _;exact JH g2 vN iG
  have hrel:=h.setRow k b (.inl ⟨_,dR⟩) L (ba A m).ty g2 (L.toList.take (U l*(ba A m).size)++f++L.toList.drop (U l*(ba A m).size+U f)).toArray vN (.bn A m g_ (l++o) (ke (U l) F)) (by rw[hk];simp)
   ⟨l3,Or.inr ⟨b,_,B,dR,kS _ _ _ _ _ _ g2,by rw[vN,ry,ea];exact fj _ N,WC,
    λi j r x u aW a2 a3=>by
     rw[lB];exact Wb B β W (own K β s.H) (λv u Nt=>Nt.mono Na (λ_ _ h=>h) (fa.refl _) alE) (λx u Nz=>Nz.mono Na λ_ _ h=>h) (λi j c Q=>(g6 i j c Q).1) _ _ Ns
      (λi j r x u dQ dG fb=>(tv i j r x u dQ dG fb).mono Na (λ_ _ h=>h) λc Q=>by subst lB;exact oR _ _ _ _ (g6 i j c Q).2.2) i j r x u aW a2 (by simpa using a3),
    λi j c Q=>⟨by have:=(g6 i j c Q).1;rw[ea];omega,(g6 i j c Q).2⟩,g7,g8⟩⟩
  rw[lB] at hrel;have yz:=hrel.MI k (.bn A m g_ (l++o) (ke (U l) F)) (.bn A m (g_+1) (l++o) (ke (U l) F)) g_ (Y b) dR l3 (c6 _ _ _) (λG j1 NC dc ow iy=>by
   have jL:=(hrel.heap k _ (c6 _ _ _)).2;rcases jL.2 with ⟨e1,_⟩|⟨iG,gM,XO,e1,e2,nw,vv,l1,aow,aox,aoy⟩
   ·rw[dR] at e1;cases e1
   rw[dR] at e1;cases e1;exact⟨O,.inr ⟨b,gM,XO,NC,e2,nw,vv,λi j r x u c1 c2 c3=>⟨λv b0=>⟨ow _ _ ((l1 i j r x u c1 c2 c3).1 v b0).1,((l1 i j r x u c1 c2 c3).1 v b0).2⟩,λmR=>((l1 i j r x u c1 c2 c3).2 mR).mono (Ext.refl _ _) (λc _=>iy c) λ_ _=>rfl⟩,aow,aox,λc=>(dc c).trans (aoy c)⟩⟩)
  have MX:bw (bw s.H k (Y (.bn A m g_ (l++o) (ke (U l) F)))) k (Y (.bn A m (g_+1) (l++o) (ke (U l) F)))=bw s.H k (Y (.bn A m (g_+1) (l++o) (ke (U l) F))):=by
   funext j;by_cases hj:j=k
   ·subst hj;rw[c6,c6]
   rw[cY _ _ _ _ hj,cY _ _ _ _ hj,cY _ _ _ _ hj]
  simp only[MX] at yz;refine⟨_,_,_,X,yz,?_⟩;have ny:bI (β.put k (Y (Y b,g_+1))) W (own K (β.put k (Y (Y b,g_+1))) (bw s.H k (Y (.bn A m (g_+1) (l++o) (ke (U l) F))))) (.bE k (g_+1) (ba A m).size 0 (U l+U o)) (.slice (Y ⟨b,0*(ba A m).size,al⟩) (U l+U o) p):=by
   refine .bE k (g_+1) (ba A m).size 0 _ p b (p*(ba A m).size) (ba A m).ty O (c6 _ _ _) (by subst lB;simpa using hw) ?_ (by rw[e6]) N rD;subst lB;unfold iV;rw[kS _ _ _ _ _ _ g2];simp only[vN,ry]
  rw[jC] at ny;exact ny
 have holds: ∀j u,(L.toList.take (U l*(ba A m).size))[j]? =Y u->w.cell? ((⟨b,0,al⟩:Addr).add j)=Y u:=by
  intro j u hj;rw[l2,e6];rw[iC] at hj;split at hj
  ·simp only[World.cell?,g2];simpa using hj
  cases hj
 have X:=run_append_grow (P:=K.P) w t ty (ba A m).ty i z hu pR hi2 ⟨b,0,al⟩ (U l) p (L.toList.take (U l*(ba A m).size)) (by rw[l4];exact Ns) holds ⟨dG,off,al⟩ (U o) GB f (by rw[l4];exact qG) Nw O O (growslice_fits O o4);obtain⟨G,f1,f2⟩:=finish B (L.toList.take (U l*(ba A m).size)) (grownCap w (U l+U o) p (ba A m).ty) Ns (grownCap_ge w _ p (ba A m).ty) (DA w _ p (ba A m).ty hm) tv (λi j c Q=>⟨(g6 i j c Q).1,(g6 i j c Q).2.1⟩) g7 g8;exact⟨_,_,G,X,f1,f2⟩
def xQ(a:Nat)(c:List V):List (Nat×Nat×V)->List (Nat×Nat×V)
 | []=>[]
 |h::e=>(h.1,h.2.1,match eh a h.2.1,c[h.2.1-a]? with
  |true,Y v=>v
  |_,_=>h.2.2)::xQ a c e
theorem KP{off:Nat}{vs:List V}{i j:Nat}{v:V}: ∀{a:List (Nat×Nat×V)},(i,j,v)∈a-> ∃c,(i,j,c)∈xQ off vs a
 |h::a,hm=>by
  rcases eN.1 hm with rfl|hm
  ·exact⟨_,fi⟩
  obtain⟨c,e⟩:=KP hm;exact⟨c,eT _ e⟩
theorem Kf{n:Nat}{a:List V}{i j:Nat}{v:V}: ∀{k:List (Nat×Nat×V)},(i,j,v)∈xQ n a k-> ∃c,(i,j,c)∈k/\(n<=j-> ∀x,a[j-n]? =Y x->v=x)/\(¬(n<=j/\j<n+U a)->v=c)
 |h::k,hm=>by
  rcases eN.1 hm with e|hm
  ·simp only[Prod.mk.injEq] at e;obtain⟨rfl,rfl,rfl⟩:=e;refine⟨h.2.2,fi,λm x l=>?_,λo=>?_⟩
   ·rw[Nat.ble_eq_true_of_le m,l]
   split
   ·rename_i v q l
    have:=(cI.1 l).1
    have:=fJ q;exact bu ⟨this,O⟩ o
   rfl
  obtain⟨c,r,w⟩:=Kf hm;exact⟨c,eT _ r,w⟩
theorem aeE{L:Nat}{e:List ez}{g_:Nat}{a:List (List T)}{l:List (Nat×Nat×V)}(h:dJ G w X L (.bn e m g_ a l)){k:List T}{c:T}(r:a[i]? =Y k)(A:k[n]? =Y c):
  ∃(b:Nat) (o:Array bm) (N:Nat->Prop) (x:bm),G L=Y (Y b,g_)/\w.heap[b]? =Y (.cells o (ba e m).ty (0,0))/\o[i*(ba e m).size+n]? =Y x/\Cell e m l G w X i n c x N:=by
 rcases h.2 with ⟨_,y,_⟩|⟨b,o,B,C,y,R,W,F,_⟩
 ·rw[y] at r;simp at r
 have Q:i<U a:=(cI.1 r).1;have f:n<(ba e m).size:=by
  grind
 have q:i*(ba e m).size+n<o.size:=by
  have:(i+1)*(ba e m).size<=U a*(ba e m).size:=fj _ Q
  grind
 exact⟨b,o,_,o[i*(ba e m).size+n],C,y,by simp[q],F i n k c _ r A (by simp[q])⟩
section qg
variable {P:ee}{H:Nat->Option E}{d:Option Tmp}{ty:bM}{pos:String}{af:Array Edge}{g:Option (Nat×Bool)}
variable {t:bM}{u:gF}{z:bm}{s_ bytes:Nat}
theorem Iq(x:ct)(o g_ i a:Nat)(n:List ez)(m:Nat)(C:Nat)(e:List (List T))(q:List (Nat×Nat×V))(l:List T)(c:T)(v:V)(Q:db P t u z s_ bytes)(R:mF u=ao)(W:H o=Y (.bn n m g_ e q))(f:(ba n m).size=C)
  (j:e[i]? =Y l) (p:l[a]? =Y c) (r:(i,a,v)∈q\/((∀v,(i,a,v)∉q)/\(ba n m).fc a=al/\v= .t c)):
  cZ P H ⟨d,.load t x,ty,pos,af,g⟩ [.c' o g_ C i a] v:=by
 subst f;intro β w X ρ M hT;obtain⟨b,us,N,y,h1,h2,F,G⟩:=aeE (M o _ W) j p;obtain⟨iG,A,hx⟩:=r0 hT.1 h1;cases A;have hlt:=(mm.1 F).1;have k:w.cell? ⟨b,i*(ba n m).size+a,al⟩=Y y:=by
  simp only[World.cell?,h2];exact F
 refine⟨y,?_,?_⟩
 ·simp[cE,hx,Instr.loadAt,Instr.sureAddr,Q.HL w R k]
 rcases r with r|⟨B,hk,rfl⟩
 ·exact(G.1 v r).1
 have L:=G.2 B;rw[hk] at L;cases L with|ly _ _ _ h _=>exact .t _ _ h
theorem P0(x:ct)(y g_ i a:Nat)(k:List ez)(m:Nat)(W:Nat)(e:List (List T))(f:List (Nat×Nat×V))(h:List T)(A:List V)(p:db P t u z s_ bytes)(M:mF u=I)(N:H y=Y (.bn k m g_ e f))(fo:(ba k m).size=W)
  (n:e[i]? =Y h) (dm:a+s_<=U h) (o:U A=s_) (b0: ∀j v,A[j]? =Y v->(i,a+j,v)∈f):
  cZ P H ⟨d,.load t x,ty,pos,af,g⟩ [.c' y g_ W i a] (.agg A):=by
 subst fo;intro β w X ρ k6 hT;rcases(k6 y _ N).2 with ⟨_,C,_⟩|⟨b,F,B,h1,C,h3,h4,h5,_⟩
 ·rw[C] at n;simp at n
 obtain⟨iG,G,hx⟩:=r0 hT.1 h1;cases G;have aO:i<U e:=(cI.1 n).1;have hrl:U h=(ba k m).size:=h4 h (ca n);have q: ∀j,j<s_->i*(ba k m).size+a+j<F.size:=by
  intro j r
  have:(i+1)*(ba k m).size<=U e*(ba k m).size:=fj _ aO
  grind
 have l: ∀j,j<s_->w.cell? ⟨b,i*(ba k m).size+a+j,al⟩=Y (F.getD (i*(ba k m).size+a+j) undef):=λj r=>by
  have:=q j r;simp[World.cell?,C,this]
 refine⟨_,by simp[cE,hx,Instr.loadAt,Instr.sureAddr,p.HM w M l];rfl,?_⟩;refine .agg _ _ (by simp[o]) λj c v L Q=>?_;have r:j<s_:=by
  grind
 simp only[List.getElem?_toArray,List.getElem?_map,List.getElem?_range r,ln,Option.some.injEq] at Q;have R:=bO (O:a+j<U h)
 have:=q j r;have h6:=(h5 i (a+j) h _ F[i*(ba k m).size+a+j] n R (by rw[<-sg];simp[this])).1 c (b0 j c L)
 grind
theorem abh(x:ct)(n g_ o i c k a:Nat)(F:Array mw)(h:mw)(L:gF)(Q:bm)(l r:Nat)(R:P.underlying t=Y (.struct F))(W:F[k]? =Y h)(f:h.offset=a)(y:db P h.type L Q l r)(A:(l==0)=ao)
  (e:E) (j:H n=Y e) (p:e.gen=Y g_):cZ P H ⟨d,.fieldAddr t x k,ty,pos,af,g⟩ [.c' n g_ o i c] (.c' n g_ o i (c+a)):=by
 intro T w X V v M;obtain⟨B,q,G⟩:=q7 (v n _ j) p;obtain⟨b,C,N⟩:=r0 M.1 G;subst C;have m:l≠0:=by simpa using A
 refine⟨.pointer (Y ⟨b,i*o+(c+a),al⟩),?_,.c' _ _ _ _ _ _ B G⟩;simp[cE,N,Instr.fieldAt,eR R,W,Instr.sureAddr,IP,y.run_sizeOf,m,l2,f,Nat.add_assoc]
theorem abf(x y:ct)(e:bM)(i g_ a c n:Nat)(r:E)(C:H i=Y r)(F:r.gen=Y g_)(G:P.underlying t=Y (.slice e))(L:db P e u z s_ bytes)(p:n<c):
  cZ P H ⟨d,.indexAddr t x y,ty,pos,af,g⟩ [.bE i g_ s_ a c,.t (.int .i64 (n:Nat))] (.c' i g_ s_ (a+n) 0):=by
 intro M w X Q R k;have dc:=eQ k.2.1;generalize A:Q x=v at k;have h:=k.1;simp only[A] at h;obtain⟨l,q,B⟩:=q7 (R i _ C) F;rcases d6 h B with ⟨W,b,m,f,rfl,o,N,T,j,V,hm⟩|⟨_,_,h0,_⟩
 ·subst o;refine⟨.pointer (Y ⟨b,(a+n)*s_+0,al⟩),?_,.c' _ _ _ _ _ b l B⟩;simp[cE,A,dc,Instr.indexAt,zO,eR G,L.run_sizeOf,l2,Nat.add_mul]
  grind
 omega
theorem ady(x:ct)(e:bM)(l g_ h i c:Nat)(r:P.underlying t=Y (.slice e))(n:E)(y:H l=Y n)(A:n.gen=Y g_):cZ P H ⟨d,.call {callee:= .builtin .len,args:= #[x],argTypes:= #[t]},ty,pos,af,g⟩ [.bE l g_ h i c] (.t (.int .i64 (c:Nat))):=by
 intro B w X o C F;obtain⟨a,cap,k⟩: ∃a cap,o x= .slice a c cap:=by
  have G:bI B w X (.bE l g_ h i c) (o x):=F.1;obtain⟨_,q,L⟩:=q7 (C l _ y) A;rcases d6 G L with ⟨cap,b,m,Q,k,_⟩|⟨_,_,R,k⟩
  ·exact⟨_,_,k⟩
  exact⟨al,0,by rw[R];exact k⟩
 refine⟨.int .i64 (c:Nat),?_,.t _ _ (.int _ _)⟩;simp[cE,jV,jU,lp,k,Builtin.len_,eR r,goInt]
end qg
section ops
variable {K:Ctx}{s:S}{d:Option Tmp}{ty:bM}{pos:String}{af:Array Edge}{g:Option (Nat×Bool)}
variable {t:bM}{u:gF}{z:bm}{g_ s_ bytes:Nat}
theorem afp(k M N n3:Nat)(x y:ct)(e:bM)(A B:List ez)(m m3:Nat)(h c:List (List T))(l:List (Nat×Nat×V))(cN: ∀i,d=Y i->ey i K.nt=I)(hx:s.get x= .bE k g_ s_ 0 (U h))(hy:s.get y= .bE M N s_ 0 n3)(hk:s.H k=Y (.bn A m g_ h []))(R:s.H M=Y (.bn B m3 N c l))
  (W:ba B m3=ba A m) (X:n3=U c) (hu:K.P.underlying t=Y (.slice e)) (he:db K.P e u z s_ bytes) (b:cP z.cells.size s_=I) (f:(ba A m).size=s_) (pP:(ba A m).ty=e) (hs: ∀n,n∈h->U n=s_) (j: ∀n,n∈c->U n=s_)
  (o:0<U c) (q:uV (ba A m) (U c) l=I) (eI:xA l=I) (br:(U h+U c)*bytes<=140737488355328) (hm:U h+U c<=9223372036854775807):
  fe K ⟨d,.call {callee:= .builtin .append,args:= #[x,y],argTypes:= #[t,t]},ty,pos,af,g⟩ s
   (({s with H:=bw s.H k (Y (.bn A m (g_+1) (h++c) (ke (U h) l)))}:S).put d (.bE k (g_+1) s_ 0 (U h+U c))):=by
 intro β a w next Q L p
 have C:=L.get x;rw[hx] at C;have F:=L.get y;rw[hy] at F;have r:=D6.of L R X (by rw[W,f];exact F) o eI (by rw[W];exact q);rw[W,f] at r;obtain⟨fr,bZ,v,h1,h2,h4⟩:=L.MF k A m h c l hk f pP ty hu he (eg b) hs j _ _ C r o q br (by unfold maxLen;omega);unfold Oper.wp;have G:(cE a.eval ⟨d,.call {callee:= .builtin .append,args:= #[x,y],argTypes:= #[t,t]},ty,pos,af,g⟩).run K.P w= .ok (.value fr) bZ:=by
  simp[cE,jV,jU,lp,h1]
 rw[G];exact p v _ bZ (h2.put d cN h4)
theorem FM{R:Type}(f:Nat->R)(k:Nat)(a b:R):bw (bw f k a) k b=bw f k b:=by funext i;unfold bw;cases cP i k<;>rfl
theorem Kx(s:S)(d:Option Tmp)(v:V):(s.put d v).H=s.H:=by cases d<;>rfl
theorem RB(s:S)(d:Option Tmp)(v:V)(F:Nat->Option E):({s.put d v with H:=F}:S)=({s with H:=F}:S).put d v:=by cases d<;>rfl
theorem RC{K:Ctx}{s:S}(k:Nat){Γ:List ez}{g_:Nat}{c:List (List T)}(o:s.H k=Y (.bn Γ m g_ c []))(F:(ba Γ m).rS=[]):
  s.le K {s with H:=bw s.H k (Y (.arr (ba Γ m).ty g_ (ba Γ m).size c))}:=by
 intro y a w h;refine⟨_,h.drop k (.arr (ba Γ m).ty g_ (ba Γ m).size c) (by rw[o];simp) ?_⟩;have e:=(h.heap k _ o).2;refine⟨e.1,?_⟩;have l: ∀b,own K (y.drop k) (bw s.H k (Y (.arr (ba Γ m).ty g_ (ba Γ m).size c))) b->own K y s.H b:=by
  rintro b (G|⟨id,A,L⟩)
  ·exact .inl G
  refine .inr ⟨id,λq=>?_,p3 L⟩;by_cases C:id=k
  ·subst C;rw[o] at q;cases q
  rw[cY _ _ _ _ C] at A;exact A q
 rcases e.2 with ⟨aW,a2,_⟩|⟨b,Q,B,aW,a2,a3,a4,a5,_⟩
 ·exact .inl ⟨aW,a2⟩
 refine .inr ⟨b,Q,aW,a2,a3,a4,λi j r x u R W X=>?_⟩;have n:=(a5 i j r x u R W X).none;rw[show(ba Γ m).fc j=al by unfold ez.fc;rw[F];rfl] at n;cases n with
 |ly _ _ _ n _=>exact n.mono (Ext.refl _ _) λb _=>l b
theorem afH(k:Nat)(x y:ct)(e:bM)(c l:List (List T))(cN: ∀i,d=Y i->ey i K.nt=I)(hx:s.get x= .bE k g_ s_ 0 (U c))(hy:eP (s.get y) (.t (.bX l)))(hk:s.H k=Y (.arr e g_ s_ c))
  (hu:K.P.underlying t=Y (.slice e)) (he:db K.P e u z s_ bytes) (tz:cP z.cells.size s_=I) (hp:ey 0 s_=I) (hs:Rows s_ c) (F:Rows s_ l)
  (br:(U c+U l)*bytes<=140737488355328) (hm:U c+U l<=9223372036854775807):
  fe K ⟨d,.call {callee:= .builtin .append,args:= #[x,y],argTypes:= #[t,t]},ty,pos,af,g⟩ s
   (({s with H:=bw s.H k (Y (.arr e (g_+1) s_ (c++l)))}:S).put d (.bE k (g_+1) s_ 0 (U c+U l))):=by
 intro β a w next Q W hkk
 suffices H: ∃X bZ,(Builtin.append_ #[t,t] ty #[a.eval x,a.eval y]).run K.P w= .ok X bZ/\ ∃o,Rel K o (({s with H:=bw s.H k (Y (.arr e (g_+1) s_ (c++l)))}:S).put d (.bE k (g_+1) s_ 0 (U c+U l))) (a.put d X) bZ by
  obtain⟨X,bZ,f,o,h2⟩:=H;unfold Oper.wp;have p:(cE a.eval ⟨d,.call {callee:= .builtin .append,args:= #[x,y],argTypes:= #[t,t]},ty,pos,af,g⟩).run K.P w= .ok (.value X) bZ:=by
   simp[cE,jV,jU,lp,f]
  rw[p];exact hkk o _ bZ h2
 have M:0<s_:=by simpa[Nat.blt_eq] using hp
 by_cases dc:l=[]
 ·subst dc;have r:=W.get x;rw[hx] at r;obtain⟨l3,q,N⟩:=q7 (W.heap k _ hk).2 rfl;obtain⟨_,i,V,hi2,l4,tq⟩:=id he;obtain⟨lY,cap,alW⟩: ∃lY cap,a.eval y= .slice lY 0 cap:=by
   rcases EC (hy _ _ _ _ (W.get y)) F M with (⟨h,_⟩|⟨b,off,cap,us,h,_⟩)|⟨_,lY,cap,h⟩
   ·exact⟨_,_,h⟩
   ·exact⟨_,_,h⟩
   exact⟨_,_,h⟩
  have yq:=W.MI k (.arr e g_ s_ c) (.arr e (g_+1) s_ c) g_ q N l3 hk (λo j1 f _ _ h4=>⟨O,by
   rcases(W.heap k _ hk).2.2 with ⟨G,c2⟩|⟨b,us,G,c2,c3,c4,c5⟩
   ·rw[N] at G;cases G;exact .inl ⟨f,c2⟩
   rw[N] at G;cases G;exact .inr ⟨b,us,f,c2,c3,c4,λi j L x u d1 d2 d3=>(c5 i j L x u d1 d2 d3).mono (Ext.refl _ _) λb _=>h4 b⟩⟩)
  refine⟨a.eval x,w,?_,β.put k (Y (q,g_+1)),?_⟩
  ·rw[alW];rcases d6 r N with ⟨C,b,n,kO,A,B,hw,hU,rE,dm,rD⟩|⟨B,_,_,A⟩<;>rw[A]
   ·cases lY<;>simp[Builtin.append_,eR hu,nV,qh,V,Builtin.lenOf,Builtin.firstCells,dm,storeCells,su,ss]
   cases lY<;>simp[Builtin.append_,eR hu,nV,qh,V,Builtin.lenOf,Builtin.firstCells,su,ss]
  rw[jj];refine yq.put d cN ?_;simp only[ho,Nat.add_zero];rcases d6 r N with ⟨C,b,n,kO,A,B,hw,hU,rE,dm,rD⟩|⟨B,_,Nj,A⟩<;>rw[A]<;>subst B
  ·exact .bE k (g_+1) s_ 0 _ C b n kO O (d5 _ _ _) hw hU rE dm rD
  rw[Nj];exact .jh k (g_+1) s_ O (d5 _ _ _)
 obtain⟨zP,R⟩:=Ky k [⟨e,s_,[]⟩] 0 hk rfl rfl (.inr rfl) β a w W;have r:bI zP w _ (s.get x) _:=R.get x;rw[hx] at r;have o6:=hy _ _ _ _ (R.get y);rcases EC o6 F M with (⟨_,h⟩|⟨b,off,cap,us,f,h2,h3,h4,h5⟩)|⟨h,_⟩
 ·exact bu h dc
 ·obtain⟨X,bZ,o,e1,e2,nw⟩:=R.MF k [⟨e,s_,[]⟩] 0 c l [] (c6 _ _ _) rfl rfl ty hu he (eg tz) hs F _ _ r ⟨b,off,cap,us,f,h2,h3,h4,λi j L x y G c2 c3=>⟨λv b0=>by(cases b0),λ_=>h5 i j L x y G c2 c3⟩⟩ (List.length_pos_iff.2 dc) (by simp[uV,ba]) br (by unfold maxLen;omega);obtain⟨pt,l1⟩:=RC (Γ:=[⟨e,s_,[]⟩]) (m:=0) k (by rw[Kx];exact c6 _ _ _) rfl o _ _ (e2.put d cN nw);rw[Kx] at l1;refine⟨X,bZ,e1,pt,?_⟩;rw[RB,FM,FM] at l1;exact l1
 exact bu h dc
theorem PM(x y:ct)(id i off:Nat)(k:List ez)(m:Nat)(o:List (List T))(R:List T)(v:V)(hs:List (Nat×Nat×V))(hx:s.get x= .c' id g_ s_ i off)(b0:s.get y=v)(BV:v.val=I)(ov:qe v.cs=I)
  (hH:s.H id=Y (.bn k m g_ o hs)) (fo:(ba k m).size=s_) {l:Nat} (fB:db K.P t u z l bytes) (alL:U v.cs=l) (Wv:0<l) (W:o[i]? =Y R) (dm:off+l<=U R)
  {X:List (Nat×Nat×V)} (rv: ∀n fx fr,(n,fx,fr)∈X-> ∃L,(n,fx,L)∈hs/\((n=i/\off<=fx/\fx<off+l)->v.cs[fx-off]? =Y fr)/\(¬(n=i/\off<=fx/\fx<off+l)->fr=L)) (gU: ∀n fx L,(n,fx,L)∈hs-> ∃v1,(n,fx,v1)∈X) (hi2: ∀j,j<l-> ∃L,(i,off+j,L)∈hs):
  fe K ⟨al,.store t x y,ty,pos,af,g⟩ s {s with H:=bw s.H id (Y (.bn k m g_ o X))}:=by
 subst fo;intro β a w next Q cC hk
 have WJ:=cC.get x;rw[hx] at WJ;have jL:=(cC.heap id _ hH).2;rcases jL.2 with ⟨_,h2,_⟩|⟨b,q,B,h1,h2,h3,h4,h5,h6,qA,pN⟩
 ·rw[h2] at W;simp at W
 obtain⟨iG,mP,rJ⟩:=r0 WJ h1;cases mP;have aO:=(cI.1 W).1;have hrl:U R=(ba k m).size:=h4 R (ca W);have yu:i*(ba k m).size+off+l<=q.size:=by
  have:(i+1)*(ba k m).size<=U o*(ba k m).size:=fj _ aO;rw[ft] at this;omega
 have o6:=cC.get y;rw[b0] at o6;obtain⟨c1,c2⟩:=o6.cells BV;have f:(a.eval y).cells.size=l:=c1.trans alL;have N: ∀e∈(a.eval y).cells.toList,e.oneCell'=I:=by
  intro e he;obtain⟨j,hj⟩:=mY.1 he;have hj':(a.eval y).cells[j]? =Y e:=by simpa using hj
  have hlt:=(mm.1 hj').1;have ch:=bO (O:j<U v.cs);exact(c2 j _ e ch hj').lf (JQ ov ch)
 unfold Oper.wp;have BR:=IZ fB w b (i*(ba k m).size+off) q _ (a.eval y) h2 f O N;have alz:(cE a.eval ⟨al,.store t x y,ty,pos,af,g⟩).run K.P w= .ok .skip (w.setRow b (q.toList.take (i*(ba k m).size+off)++(a.eval y).cells.toList++q.toList.drop (i*(ba k m).size+off+U (a.eval y).cells.toList)).toArray):=by
  simp only[cE,rJ,Instr.storeAt,Instr.sureAddr,gE,jD,gz,BR]
 rw[alz];have hlen:U (q.toList.take (i*(ba k m).size+off)++(a.eval y).cells.toList++q.toList.drop (i*(ba k m).size+off+U (a.eval y).cells.toList))=q.size:=by
  simp[f];omega
 have BP:own K β s.H b:= .inr ⟨id,by rw[hH];simp,.inl ⟨_,h1⟩⟩;generalize vO:(q.toList.take (i*(ba k m).size+off)++(a.eval y).cells.toList++q.toList.drop (i*(ba k m).size+off+U (a.eval y).cells.toList)).toArray=r at*;have A:r.size=q.size:=by rw[<-vO];simpa using hlen
 have p:Ext (own K β s.H) w (w.setRow b r):=⟨rfl,rfl,rfl,aZ,λkk _ hx=>oR _ _ _ _ λe0=>hx (e0▸BP)⟩
 have M:Shaped β w (w.setRow b r):=λiG _=>JH h2 A iG;refine hk β _ _ (Rel.setRow cC id b (.inl ⟨_,h1⟩) q _ h2 r A (.bn k m g_ o X) (by rw[hH];simp) ?_);refine⟨jL.1,.inr ⟨b,r,B,h1,kS _ _ _ _ _ _ h2,by rw[A];exact h3,h4,λn fx C lQ nJ aW a2 a3=>?_,h6,qA,pN⟩⟩;have hjs:fx<(ba k m).size:=by rw[<-h4 C (ca aW)];exact(cI.1 a2).1
 by_cases tr:n=i/\off<=fx/\fx<off+l
 ·obtain⟨rfl,akW,Wh⟩:=tr;obtain⟨L,vI⟩:=hi2 (fx-off) O;rw[show off+(fx-off)=fx by omega] at vI;have F:=h5 n fx C lQ q[n*(ba k m).size+fx] aW a2 (by rw[jQ O]);obtain⟨v1,rC⟩:=gU _ _ _ vI;refine⟨λfr G=>⟨?_,(F.1 L vI).2⟩,λmR=>bu rC (mR v1)⟩;obtain⟨_,_,q2,_⟩:=rv _ _ _ G;have aky:=q2 ⟨rfl,akW,Wh⟩
  have:(a.eval y).cells[fx-off]? =Y nJ:=by
   rw[<-vO] at a3;simp only[List.getElem?_toArray] at a3;rw[ll (by simp[f];omega),lk bV] at a3;have nw:n*(ba k m).size+fx-U (q.toList.take (n*(ba k m).size+off))=fx-off:=by
    rw[dW,sj];omega
   rw[nw] at a3;simpa using a3
  exact(c2 _ _ nJ aky this).mono p (λ_ _ h=>h) (fa.refl _) M
 have hne:n*(ba k m).size+fx<i*(ba k m).size+off\/i*(ba k m).size+off+l<=n*(ba k m).size+fx:=by
  rcases Nat.lt_trichotomy n i with h|h|h
  ·have:=fj (ba k m).size (O:n+1<=i);rw[ft] at this;omega
  ·subst h
   have: ¬(off<=fx/\fx<off+l):=λh=>tr ⟨rfl,h⟩;omega
  have:=fj (ba k m).size (O:i+1<=n);rw[ft] at this;omega
 have F:q[n*(ba k m).size+fx]? =Y nJ:=by
  rw[<-vO] at a3;simp only[List.getElem?_toArray,List.getElem?_append,fH,mv,List.getElem?_take,List.getElem?_drop,Array.length_toList,f] at a3;rw[show min (i*(ba k m).size+off) q.size=i*(ba k m).size+off by omega] at a3;rcases hne with hlt|jt
  ·rw[bk O,bk O,bk O] at a3;simpa using a3
  rw[bh O] at a3;rw[show i*(ba k m).size+off+l+(n*(ba k m).size+fx-(i*(ba k m).size+off+l))=n*(ba k m).size+fx by omega] at a3;simpa using a3
 have vF:=h5 n fx C lQ nJ aW a2 F;have hc1:=vF.mono (β':=β) p (λ_ _ h=>h) (fa.refl _) M λc ch=>oR _ _ _ _ (h6 _ _ _ ch).2.2;refine⟨λfr G=>?_,λmR=>hc1.2 λfr G=>?_⟩
 ·obtain⟨L,oH,_,wx⟩:=rv _ _ _ G;rw[wx tr];exact hc1.1 L oH
 obtain⟨v1,rC⟩:=gU _ _ _ G;exact mR v1 rC
theorem abM(x y:ct)(B i a:Nat)(C:List ez)(m:Nat)(c:List (List T))(k:List T)(v:V)(o:List (Nat×Nat×V))(f:s.get x= .c' B g_ s_ i a)(p:s.get y=v)(q:v.val=I)(r:qe v.cs=I)
  (M:s.H B=Y (.bn C m g_ c o)) (N:(ba C m).size=s_) {e:Nat} (fB:db K.P t u z e bytes) (G:U v.cs=e) (w:0<e) (L:c[i]? =Y k) (dm:a+e<=U k)
  (Q: ∀A l n,(A,l,n)∈o->a<=l->l<a+e->A=i) (R: ∀j,j<e-> ∃n,(i,a+j,n)∈o):
  fe K ⟨al,.store t x y,ty,pos,af,g⟩ s {s with H:=bw s.H B (Y (.bn C m g_ c (xQ a v.cs o)))}:=by refine PM x y B i a C m c k v o f p q r M N fB G w L dm (λA l fr W=>?_) (λA l n W=>KP W) R;obtain⟨n,X,g2,g3⟩:=Kf W;refine⟨n,X,λ⟨_,F,h2⟩=>?_,λh=>g3 λ⟨F,h2⟩=>h ⟨Q A l n X F O,F,O⟩⟩;have b:=bO (O:l-a<U v.cs);rw[b,g2 F _ b]
end ops
def E.gen?:E->Option Nat
 | .cells _=>al
 | .arr _ g_ _ _=>Y g_
 | .bn _ _ g_ _ _=>Y g_
theorem FB{g:Nat}{T:E}(c:T.gen? =Y g)(h:dJ G w X i T):1<=g/\ ∃q,G i=Y (q,g):=by
 cases T with
 |cells cs=>cases c
 |arr ty g_ s_ a=>cases c;exact⟨h.1,nH h⟩
 |bn e m g_ a k=>cases c;exact⟨h.1,xq h⟩
section qg
variable {P:ee}{H:Nat->Option E}{d:Option Tmp}{ty:bM}{pos:String}{af:Array Edge}{g:Option (Nat×Bool)}
variable {t:bM}{u:gF}{z:bm}{s_ bytes:Nat}
def sY(c:Nat)(h i:Option ct)(e:ct->bm)(a b:Nat):Prop:=
 (match h with|some x=>e x= .int .i64 (a:Nat)|none=>a=0)/\(match i with|some x=>e x= .int .i64 (b:Nat)|none=>b=c)
theorem Fv{P:ee}{len a:Nat}{k e:Option ct}{c:ct->bm}(h:sY len k e c a b)(n:a<=b)(o:b<=i)(w:bY):(Instr.sliceBounds I len i (k.map c) (e.map c) al).run P w= .ok (a,b,i) w:=by
 obtain⟨m,l⟩:=h;cases k with
 |none=>
  have m:a=0:=m;subst m;cases e with
  |none=>
   have l:b=len:=l;subst l;simp[Instr.sliceBounds]
  |some y=>
   have l:c y=_:=l;simp[Instr.sliceBounds,l,lx w b i _ o]
 |some x=>
  have m:c x=_:=m;cases e with
  |none=>
   have l:b=len:=l;subst l;simp[Instr.sliceBounds,m,lx w a b _ n]
  |some y=>
   have l:c y=_:=l;simp[Instr.sliceBounds,m,l,lx w b i _ o,lx w a b _ n]
theorem aie(x:ct)(y A:Option ct)(e:bM)(m g_ h c a b:Nat)(W:E)(M:H m=Y W)(N:W.gen? =Y g_)(f:P.underlying t=Y (.slice e))(j:db P e u z s_ bytes)
  (T:a<=b) (h2:b<=c) (h3:a=0\/a<c) {i:List V} (br: ∀B w X (k:ct->bm),eG B w X i (y.toList.map k++A.toList.map k)->sY c y A k a b):
  cZ P H ⟨d,.slice t x y A al,ty,pos,af,g⟩ (.bE m g_ s_ h c::i) (.bE m g_ s_ (h+a) (b-a)):=by
 intro B w X k k6 G;obtain⟨C,q,L⟩:=FB N (k6 m _ M);have G:eG B w X (.bE m g_ s_ h c::i) (k x::(y.toList.map k++A.toList.map k)):=by
  cases y<;>cases A<;>simpa[Op.operands] using G
 have F:sY c y A k a b:=br B w X k G.2;have hx:bI B w X (.bE m g_ s_ h c) (k x):=G.1;rcases d6 hx L with ⟨l,p,n,Q,o,r,hw,hs,dc,dm,hm⟩|⟨r,h0,R,o⟩
 ·subst r;refine⟨.slice (Y ⟨p,(h+a)*s_,al⟩) (b-a) (l-a),?_,.bE m g_ s_ (h+a) (b-a) (l-a) p n Q C L hw hs (by rw[<-dc];congr 1;omega) O O⟩;simp only[cE,gE,Instr.sliceAt,Instr.slice,eR f,gz,o,Option.map_none,ln,Fv F T (O:b<=l),j.run_sizeOf,jD];by_cases v:l=a
  ·rw[bk v]
   grind
  rw[bh v];simp[l2,Nat.add_mul]
 subst r;subst h0;subst R;have e1:b=0:=O
 have e2:a=0:=O
 subst e1;subst e2;refine⟨.slice al 0 0,?_,.jh m g_ s_ C L⟩;simp only[cE,gE,Instr.sliceAt,Instr.slice,eR f,gz,o,Option.map_none,Fv F (Nat.le_refl _) (Nat.le_refl 0),j.run_sizeOf,jD];simp
theorem ahq(x:ct)(q r:Option ct)(e N:bM)(m g_ c h a b:Nat)(l:List (List T))(hH:H m=Y (.arr N g_ s_ l))(fB:P.underlying t=Y (.slice e))(he:db P e u z s_ bytes)
  (hp:0<s_) (h1:a<b) (j:c+b<=U l) {i:List V} (br: ∀y w X (k:ct->bm),eG y w X i (q.toList.map k++r.toList.map k)->sY h q r k a b):
  cZ P H ⟨d,.slice t x q r al,ty,pos,af,g⟩ (.bE m g_ s_ c h::i) (.bE m g_ s_ (c+a) (b-a)):=by
 intro y w X k k6 F;have A:=k6 m _ hH;have G:=A.1;have F:eG y w X (.bE m g_ s_ c h::i) (k x::(q.toList.map k++r.toList.map k)):=by
  cases q<;>cases r<;>simpa[Op.operands] using F
 have L:sY h q r k a b:=br y w X k F.2;have hx:bI y w X (.bE m g_ s_ c h) (k x):=F.1;rcases A.2 with ⟨Q,R⟩|⟨p,us,Q,g2,g3,g4,g5⟩
 ·subst R;simp at j;omega
 rcases d6 hx Q with ⟨cap,iG,n,W,f,o,hw,v,M,dm,hm⟩|⟨o,_⟩
 ·cases o;have B:us.size=n:=by
   unfold iV at v
   grind
  have C:b<=cap:=by
   have h3:(c+b)*s_<=(c+cap)*s_:=by
    rw[M,<-B];exact iD (fj _ j) g3
   have:=Nat.le_of_mul_le_mul_right h3 hp;omega
  refine⟨.slice (Y ⟨p,(c+a)*s_,al⟩) (b-a) (cap-a),?_,.bE m g_ s_ (c+a) (b-a) (cap-a) p n W G Q hw v (by rw[<-M];congr 1;omega) O O⟩;simp only[cE,gE,Instr.sliceAt,Instr.slice,eR fB,gz,f,Option.map_none,ln,Fv L (O:a<=b) C,he.run_sizeOf,jD];rw[bh (show¬cap=a by omega)];simp[l2,Nat.add_mul]
 cases o
theorem ag2(x:ct)(o r:Option ct)(e:bM)(y g_ h m c a:Nat)(Q:E)(W:H y=Y Q)(b:Q.gen? =Y g_)(f:P.underlying t=Y (.slice e))(j:db P e u z s_ bytes)
  (h2:a<=c) {i:List V} (p: ∀A w X (k:ct->bm),eG A w X i (o.toList.map k++r.toList.map k)->sY c o r k a a):
  cZ P H ⟨d,.slice t x o r al,ty,pos,af,g⟩ (.bE y g_ h m c::i) (.t (.bX [])):=by
 intro A w X k v B;obtain⟨M,q,N⟩:=FB b (v y _ W);have B:eG A w X (.bE y g_ h m c::i) (k x::(o.toList.map k++r.toList.map k)):=by
  cases o<;>cases r<;>simpa[Op.operands] using B
 have F:sY c o r k a a:=p A w X k B.2;have T:bI A w X (.bE y g_ h m c) (k x):=B.1;obtain⟨C,cap,l,R⟩: ∃C cap,k x= .slice C c cap/\c<=cap:=by
  rcases d6 T N with ⟨cap,iG,n,kO,l,G,hw,hs,dc,dm,hm⟩|⟨G,h0,L,l⟩
  ·exact⟨_,cap,l,dm⟩
  exact⟨al,0,by rw[L];exact l,O⟩
 refine⟨.slice (if cap=a then C else C.map (·.add (a*s_))) (a-a) (cap-a),?_,.t _ _ (by rw[pq];exact .iq _ _)⟩;simp only[cE,gE,Instr.sliceAt,Instr.slice,eR f,gz,l,Option.map_none,Fv F (Nat.le_refl _) (O:a<=cap),j.run_sizeOf,jD]
theorem ab9(x:ct)(e g_ a i c:Nat)(h:E)(m:H e=Y h)(n:h.gen? =Y g_):cZ P H ⟨d,.nilCheck x,ty,pos,af,g⟩ [.c' e g_ a i c] (.c' e g_ a i c):=by intro o w X k r y;obtain⟨A,q,B⟩:=FB n (r e _ m);have l:bI o w X (.c' e g_ a i c) (k x):=y.1;obtain⟨b,_,C⟩:=r0 l B;exact⟨k x,by simp[cE,C],l⟩
theorem afe(x F G L:ct)(e:bM)(o g_ h l i a b c:Nat)(Q:E)(f:H o=Y Q)(j:Q.gen? =Y g_)(p:P.underlying t=Y (.slice e))(v:db P e u z s_ bytes)
  (M:a<=b) (N:b<=c) (h3:c<=i):cZ P H ⟨d,.slice t x (Y F) (Y G) (Y L),ty,pos,af,g⟩ [.bE o g_ h l i,.t (.int .i64 (a:Nat)),.t (.int .i64 (b:Nat)),.t (.int .i64 (c:Nat))] .d':=by
 intro T w X m V r;obtain⟨l3,q,dR⟩:=FB j (V o _ f);have hx:bI T w X (.bE o g_ h l i) (m x):=r.1;have A:m F=_:=eQ r.2.1;have mQ:m G=_:=eQ r.2.2.1;have R:m L=_:=eQ r.2.2.2.1;obtain⟨y,cap,k,W⟩: ∃y cap,m x= .slice y i cap/\i<=cap:=by
  rcases d6 hx dR with ⟨cap,iG,n,kO,k,B,hw,hs,dc,A,R⟩|⟨B,h0,C,k⟩
  ·exact⟨_,cap,k,A⟩
  exact⟨al,0,by rw[C];exact k,O⟩
 refine⟨.slice (if c=a then y else y.map (·.add (a*s_))) (b-a) (c-a),?_,.d' _⟩;simp[cE,k,A,mQ,R,Instr.sliceAt,Instr.slice,eR p,Instr.sliceBounds,lx w c cap _ O,lx w b c _ N,lx w a b _ M,v.run_sizeOf]
end qg
section steps
variable {K:Ctx}{s:S}{d:Option Tmp}{ty:bM}{pos:String}{af:Array Edge}{g:Option (Nat×Bool)}
variable {t:bM}{u:gF}{z:bm}{s_ bytes g_:Nat}
theorem Tp(f:Rel K G s a w)(r b:Nat)(e:bM)(o c:List (List T))(y n:Array bm)(Q:s.H r=Y (.arr e g_ s_ o))(A:G r=Y (Y b,g_))(q:w.heap[b]? =Y (.cells y e (0,0)))
  (R:n.size=y.size) (p:U c*s_<=y.size) (B: ∀l,l∈c->U l=s_)
  (ch: ∀(i j:Nat) (l:List T) (x:T) (u:bm),c[i]? =Y l->l[j]? =Y x->n[i*s_+j]? =Y u->(∃(L:Nat) (m:List T),o[L]? =Y m/\m[j]? =Y x/\y[L*s_+j]? =Y u)\/(∀w X,ei w X x u)):
  Rel K G {s with H:=bw s.H r (Y (.arr e g_ s_ c))} a (w.setRow b n):=by
 refine Rel.setRow f r b (.inl ⟨_,A⟩) y e q n R (.arr e g_ s_ c) (by rw[Q];simp) ?_;have W:own K G s.H b:= .inr ⟨r,by rw[Q];simp,.inl ⟨_,A⟩⟩;have C:=(f.heap r _ Q).2;refine⟨C.1,.inr ⟨b,n,A,kS _ _ _ _ _ _ q,O,B,λi j l x u aW a2 a3=>?_⟩⟩;rcases ch i j l x u aW a2 a3 with ⟨L,m,M,N,V⟩|ch
 ·rcases C.2 with ⟨F,_⟩|⟨dG,sc,F,v,h3,h4,h5⟩
  ·rw[A] at F;cases F
  rw[A] at F;cases F;rw[q] at v;cases v;exact(h5 L j m x u M N V).mono ⟨rfl,rfl,rfl,aZ,λk _ hx=>oR _ _ _ _ λe0=>hx (e0▸W)⟩ λ_ _ h=>h
 exact ch _ _
theorem Rel.HZ(k:Rel K β s a w)(c:Nat)(e:E)(l:s.H c=Y e):Rel K β {s with H:=bw s.H c (Y e)} a w:=by
 have:bw s.H c (Y e)=s.H:=by
  funext i;by_cases h:i=c
  ·subst h;rw[c6,l]
  rw[cY _ _ _ _ h]
 rw[this];exact k
end steps
end
section
def eD{k:Type}(f:Nat->k):List (Nat×k)->Nat->k
 | []=>f
 |(d,v)::r=>eD (bw f d v) r
theorem o8{k:Type}: ∀(l:List (Nat×k)) (f:Nat->k) (r:Nat),(∀v,(r,v)∉l)->eD f l r=f r
 | [],_,_,_=>rfl
 |(d,v)::l,f,r,h=>by rw[eD,o8 l _ r λa c=>h a (eT _ c),cY _ _ _ _ (by intro e;subst e;exact h v (fi ..))]
theorem FN{k:Type}: ∀(l:List (Nat×k)) (f g:Nat->k) (r:Nat),(∃v,(r,v)∈l)->eD f l r=eD g l r
 | [],_,_,_,⟨v,h⟩=>by simp at h
 |(d,v)::l,f,g,r,h=>by
  simp only[eD];by_cases c: ∃a,(r,a)∈l
  ·exact FN l _ _ r c
  have i:r=d:=by
   obtain⟨a,b0⟩:=h;rcases eN.1 b0 with e|b0
   ·cases e;rfl
   exact bu ⟨a,b0⟩ c
  subst i;rw[o8 l _ r λa b0=>c ⟨a,b0⟩,o8 l _ r λa b0=>c ⟨a,b0⟩,c6,c6]
structure dY where
 ts:List (Nat×V)
 hs:List (Nat×Option E):=[]
 us:List (Nat×Bool):=[]
def dY.app(e:dY)(s:S):S:={t:=eD s.t e.ts,H:=eD s.H e.hs,u:=eD s.u e.us}
structure iW where
 ts:List Nat
 rT:List Nat:=[]
def iW.same(r:iW)(s a:S):Prop:=(∀i,i∈r.ts->s.t i=a.t i)/\ ∀k,k∈r.rT->s.H k=a.H k/\s.u k=a.u k
def kn(K:Ctx)(ops:Array Oper)(o:Oper)(s h:S):Prop:=
 ∀i a w next Q,Rel K i s a w->(∀c d e,Rel K c h d e->next d e)->
  if Region.wanted o (w8 ops a.tmps) then o.wp K.P a w next Q\/(o.asks K.P a w/\LetsOut Q) else next (a.put o.dst undef) w
variable {K:Ctx}{ops:Array Oper}{o:Oper}{s:S}{j t:Nat}{want:Bool}
theorem kn.of{b:S}(c:o.guard=al)(h:fe K o s b):kn K ops o s b:=by
 intro β a w next Q d e
 rw[bk (by simp[Region.wanted,c])];exact .inl (h β a w next Q d e)
theorem kn.jd{s':S}(d:o.guard=Y (j,want))(e:(ops[j]?).bind (·.dst)=Y t)(i:s.t t= .t (.bool want))(h:fe K o s s'):kn K ops o s s':=by
 intro β a w next Q c k
 have l:w8 ops a.tmps j=Y want:=by unfold w8;rw[e];simp[c.bool i]
 rw[bk (by simp[Region.wanted,d,l])];exact .inl (h β a w next Q c k)
theorem kn.out(d:o.guard=Y (j,want))(e:(ops[j]?).bind (·.dst)=Y t)(h:s.t t= .t (.bool (!want)))(k: ∀i,o.dst=Y i->ey i K.nt=I):kn K ops o s (s.put o.dst (.dB [])):=by
 intro l a w next Q c m
 have n:w8 ops a.tmps j=Y (!want):=by unfold w8;rw[e];simp[c.bool h]
 rw[bh (by simp[Region.wanted,d,n])];exact m l _ w (c.put o.dst k SA)
theorem kn.skip(d:o.guard=Y (j,want))(e:(ops[j]?).bind (·.dst)=Y t)(h:s.t t= .dB [])(k: ∀i,o.dst=Y i->ey i K.nt=I):kn K ops o s (s.put o.dst (.dB [])):=by
 intro l a w next Q c m
 have hw:=c.anc (ops:=ops) (want:=want) e h;rw[bh (by simp[Region.wanted,d,hw])];exact m l _ w (c.put o.dst k SA)
def ji{k:Type}:List (List (Nat×k))->Nat->(Nat->Bool)->(Nat->k)->Nat->k
 | [],_,_,f=>f
 |l::cD,i,L,f=>ji cD (i+1) L (bif L i then eD f l else f)
theorem DN{k:Type}: ∀(cD:List (List (Nat×k))) (i:Nat) (L a:Nat->Bool) (f c:Nat->k) (r:Nat),f r=c r->(∀j l,cD[j]? =Y l->(∃v,(r,v)∈l)->L (i+j)=a (i+j))->ji cD i L f r=ji cD i a c r
 | [],_,_,_,_,_,_,h,_=>h
 |l::cD,i,L,a,f,c,r,h,m=>by
  simp only[ji];refine DN cD (i+1) L a _ _ r ?_ λj n o d=>by have:=m (j+1) n o d;rwa [show i+(j+1)=i+1+j by omega] at this
  by_cases e: ∃v,(r,v)∈l
  ·have:=m 0 l rfl e;rw[uA] at this;rw[<-this];cases L i with
   |true=>exact FN l _ _ r e
   |false=>exact h
  have q: ∀g:Nat->k,eD g l r=g r:=λg=>o8 l g r λv d=>e ⟨v,d⟩;cases L i<;>cases a i<;>simp only[cond_true,cond_false,q]<;>exact h
theorem RU{R:Type}: ∀(cD:List (List (Nat×R))) (i:Nat) (L:Nat->Bool) (f:Nat->R) (r k:Nat) (l:List (Nat×R)),cD[k]? =Y l->(∃v,(r,v)∈l)->L (i+k)=I->
  (∀j e,k<j->cD[j]? =Y e->(∃v,(r,v)∈e)->L (i+j)=ao)-> ∀g:Nat->R,ji cD i L f r=eD g l r
 |h::cD,i,L,f,r,0,l,c,m,n,a,g=>by
  simp at c;subst c;simp only[ji];rw[uA] at n;rw[n,cond_true,DN cD (i+1) L (λ_=>ao) (eD f h) (eD g h) r (FN h _ _ r m) (λj e o d=>by
   have:=a (j+1) e O o d
   rwa [show i+(j+1)=i+1+j by omega] at this)]
  have q: ∀(cD:List (List (Nat×R))) (i:Nat) (f:Nat->R),ji cD i (λ_=>ao) f=f:=by
   intro cD;induction cD with
   |nil=>intro _ _;rfl
   |cons l cD w=>intro i f;simp only[ji,cond_false];exact w _ _
  rw[q]
 |h::cD,i,L,f,r,k+1,l,c,m,n,a,g=>by
  simp at c;simp only[ji];exact RU cD (i+1) L _ r k l c m (by rwa [show i+1+k=i+(k+1) by omega]) (λj e x o d=>by
   have:=a (j+1) e O o d
   rwa [show i+(j+1)=i+1+j by omega] at this) g
 | [],_,_,_,_,_,_,c,_,_,_,_=>by simp at c
def kh(a:List dY)(i:Nat)(L:Nat->Bool)(s:S):S:={t:=ji (a.map (·.ts)) i L s.t,H:=ji (a.map (·.hs)) i L s.H,u:=ji (a.map (·.us)) i L s.u}
def o7(a:Array Oper):Nat->Nat->Nat->Bool
 |0,_,_=>ao
 |f+1,i,j=>match a[j]? with
  |none=>ao
  |some o=>o.after.toList.any λe=>Region.binds .any e&&(cP e.on i||o7 a f i e.on)
def sD{k:Type}(l:List (Nat×k))(r:List Nat):Bool:=l.any λp=>r.any λx=>cP p.1 x
def uq{k R:Type}(l:List (Nat×k))(m:List (Nat×R)):Bool:=l.any λp=>m.any λq=>cP p.1 q.1
def nR(e:dY)(r:iW)(a:dY)(c:iW):Bool:=
 sD e.ts c.ts||sD a.ts r.ts||uq e.ts a.ts||sD e.hs c.rT||sD a.hs r.rT||uq e.hs a.hs||sD e.us c.rT||sD a.us r.rT||uq e.us a.us
def pd(c:Array Oper)(n:Nat):Nat->List (dY×iW)->Bool
 |_,[]=>I
 |i,(e,r)::a=>go i e r (i+1) a&&pd c n (i+1) a
where
 go (i:Nat) (e:dY) (r:iW):Nat->List (dY×iW)->Bool
  |_,[]=>I
  |j,(d,h)::a=>(!nR e r d h||o7 c n i j)&&go i e r (j+1) a
def uU:Nat->List Oper->Bool
 |_,[]=>I
 |i,o::a=>o.after.toList.all (λe=> !Region.binds .any e||ey e.on i)&&uU (i+1) a
theorem Tg{c:Array Oper}{n i:Nat}{e:dY}{r:iW}: ∀(l:List (dY×iW)) (j:Nat),pd.go c n i e r j l=I-> ∀(k:Nat) a d,l[k]? =Y (a,d)->nR e r a d=I->o7 c n i (j+k)=I
 | [],_,_,_,_,_,h,_=>by simp at h
 |(q,w)::l,j,h,0,a,d,m,o=>by
  simp at m;obtain⟨rfl,rfl⟩:=m;simp only[pd.go,cJ,o,Bool.not_true,Bool.false_or] at h;exact h.1
 |(q,w)::l,j,h,k+1,a,d,m,o=>by
  simp at m;simp only[pd.go,cJ] at h
  have:=Tg l (j+1) h.2 k a d m o
  rwa [show j+1+k=j+(k+1) by omega] at this
theorem DP{c:Array Oper}{n:Nat}: ∀(l:List (dY×iW)) (a:Nat),pd c n a l=I-> ∀(i j:Nat) e r d k,l[i]? =Y (e,r)->l[j]? =Y (d,k)->i<j->nR e r d k=I->o7 c n (a+i) (a+j)=I
 | [],_,_,_,_,_,_,_,_,h,_,_,_=>by simp at h
 |(x,y)::l,a,h,0,j,e,r,d,k,m,o,q,w=>by
  simp at m;obtain⟨rfl,rfl⟩:=m;simp only[pd,cJ] at h;cases j with
  |zero=>omega
  |succ j=>
   simp at o
   have:=Tg l (a+1) h.1 j d k o w
   rwa [show a+1+j=a+(j+1) by omega] at this
 |(x,y)::l,a,h,i+1,j,e,r,d,k,m,o,q,w=>by
  simp only[pd,cJ] at h;cases j with
  |zero=>omega
  |succ j=>
   simp at m o
   have:=DP l (a+1) h.2 i j e r d k m o O w
   rwa [show a+1+i=a+(i+1) by omega,show a+1+j=a+(j+1) by omega] at this
theorem adT(e:dY)(r:iW)(d:dY)(i:iW):nR e r d i=nR d i e r:=by
 have o: ∀{k n:Type} (l:List (Nat×k)) (m:List (Nat×n)),uq l m=uq m l:=by
  intro k n l m;rw[jk];simp only[uq,List.any_eq_true];constructor
  ·rintro⟨p,a,q,c,h⟩;exact⟨q,c,p,a,by have:=eg h;simp[this]⟩
  rintro⟨p,a,q,c,h⟩;exact⟨q,c,p,a,by have:=eg h;simp[this]⟩
 unfold nR
 grind
def Vk(c:Array Oper)(a:Array Bool):Prop:= ∀j o,c[j]? =Y o->a.getD j I=I-> ∀e∈o.after,Region.binds .any e=I->a.getD e.on ao=I
theorem OK{c:Array Oper}{a:Array Bool}(n:Vk c a): ∀(f i j:Nat),o7 c f i j=I->(∀o,c[j]? =Y o-> ∀e∈o.after,Region.binds .any e=I->a.getD e.on ao=I)->a.getD i ao=I
 |0,_,_,h,_=>by simp[o7] at h
 |f+1,i,j,h,q=>by
  unfold o7 at h;cases l:c[j]? with
  |none=>rw[l] at h;simp at h
  |some o=>
   rw[l] at h;simp only[List.any_eq_true,cJ,Bool.or_eq_true] at h;obtain⟨e,r,w,d⟩:=h;have dm:=q o l e (by simpa using r) w;rcases d with d|d
   ·have:=eg d;rw[<-this];exact dm
   refine OK n f i e.on d λx m=>n e.on x m ?_;rw[uB] at dm⊢;cases k:a[e.on]? with
   |none=>rw[k] at dm;simp at dm
   |some b=>rw[k] at dm;simpa using dm
def z1(K:Ctx)(a:Array Oper):List Oper->List (dY×iW)->S->(S->Prop)->Prop
 | [],[],s,Q=>Q s
 |o::os,(e,r)::d,s,Q=>(∀c,r.same c s->kn K a o c (e.app c))/\z1 K a os d (e.app s) Q
 |_,_,_,_=>False
end
section
theorem Q4{k:Type}: ∀(cD:List (List (Nat×k))) (i:Nat) (L:Nat->Bool) (f:Nat->k),ji cD (i+1) L f=ji cD i (λj=>L (j+1)) f
 | [],_,_,_=>rfl
 |l::cD,i,L,f=>by simp only[ji];exact Q4 cD (i+1) L _
theorem Kc(e:dY)(a:List dY)(L:Nat->Bool)(s:S):kh (e::a) 0 L s=kh a 0 (λj=>L (j+1)) (bif L 0 then e.app s else s):=by unfold kh;simp only[jn,ji,Nat.zero_add,Q4];cases L 0<;>rfl
theorem DZ{K:Ctx}{c:Array Oper}: ∀(l:List Oper) (es:List (dY×iW)) (s:S) (Q:S->Prop),z1 K c l es s Q->
  U l=U es/\Q (kh (es.map (·.1)) 0 (λ_=>I) s)/\
  ∀(i:Nat) o e r,l[i]? =Y o->es[i]? =Y (e,r)-> ∀d,r.same d (kh (es.map (·.1)) 0 (λj=>ey j i) s)->kn K c o d (e.app d)
 | [],[],s,Q,h=>⟨rfl,h,λi o e r k=>by simp at k⟩
 |o::os,(e,r)::es,s,Q,h=>by
  obtain⟨w,x⟩:=h;obtain⟨aW,a2,a3⟩:=DZ os es _ Q x;refine⟨by simp[aW],?_,?_⟩
  ·simp only[jn,Kc,cond_true];exact a2
  intro i y z A k m d a;cases i with
  |zero=>
   simp at k m;obtain⟨rfl,rfl⟩:=m;subst k;refine w d ?_
   have:kh (cb (·.1) ((e,r)::es)) 0 (λj=>ey j 0) s=s:=by
    simp only[jn,Kc];have n: ∀{q:Type} (cD:List (List (Nat×q))) (i:Nat) (f:Nat->q),ji cD i (λj=>ey (j+1) 0) f=f:=by
     intro q cD;induction cD with
     |nil=>intro _ _;rfl
     |cons l cD B=>intro i f;simp only[ji];exact B _ _
    show kh (es.map (·.1)) 0 (λj=>ey (j+1) 0) s=s;unfold kh;simp only[n]
   rw[this] at a;exact a
  |succ i=>
   simp at k m;refine a3 i y z A k m d ?_;simp only[jn,Kc] at a;exact a
 | [],_::_,_,_,h=>h.elim
 |_::_,[],_,_,h=>h.elim
variable {k:Type}{r:iW}{x n i:Nat}{v:k}{a:Array Bool}{c:Array Oper}{e:dY}
theorem Kk{l:List (Nat×k)}{r:List Nat}(h:(x,v)∈l)(a:x∈r):sD l r=I:=by unfold sD;rw[kA];exact⟨(x,v),h,by rw[kA];exact⟨x,a,aZ⟩⟩
theorem Jn{R:Type}{l:List (Nat×k)}{m:List (Nat×R)}{a:R}(h:(x,v)∈l)(c:(x,a)∈m):uq l m=I:=by unfold uq;rw[kA];exact⟨(x,v),h,by rw[kA];exact⟨(x,a),c,aZ⟩⟩
section
variable {K:Ctx}{l:List Oper}{es:List (dY×iW)}{s:S}
theorem KE(proj:dY->List (Nat×k))(L:pd c n 0 es=I)(Q:es[i]? =Y (e,r))(f:Nat->k)(x:Nat)
  (o: ∀d h v,(x,v)∈proj d->nR e r d h=I)
  (q: ∀j,o7 c n j i=I->a.getD j ao=I) (w: ∀j,j<U es->o7 c n i j=I->a.getD j I=ao) (A:a.getD i I=ao):
  ji ((es.map (·.1)).map proj) 0 (λj=>a.getD j I) f x=ji ((es.map (·.1)).map proj) 0 (λj=>ey j i) f x:=by
 refine DN _ 0 _ _ f f x rfl ?_;intro j X m ⟨v,R⟩;rw[e6];simp only[List.map_map,List.getElem?_map] at m;cases y:es[j]? with
 |none=>rw[y] at m;cases m
 |some p=>
  obtain⟨d,h⟩:=p;rw[y] at m;simp at m;subst m;have B:j<U es:=(cI.1 y).1;rcases Nat.lt_trichotomy j i with z|rfl|C
  ·have br:=DP es 0 L j i d h e r y Q z (by rw[adT];exact o d h v R);rw[e6,e6] at br;have F:=q j br;have W:ey j i=I:=by simpa[Nat.blt_eq] using z
   rw[W];rw[uB] at F⊢;cases G:a[j]? with
   |none=>rfl
   |some b=>rw[G] at F;simpa using F
  ·rw[A];symm;cases br:ey j j with
   |false=>rfl
   |true=>simp[Nat.blt_eq] at br
  have br:=DP es 0 L i j e r d h Q y C (o d h v R);rw[e6,e6] at br;rw[w j B br];symm;cases H:ey j i with
  |false=>rfl
  |true=>simp[Nat.blt_eq] at H;omega
theorem J'(proj:dY->List (Nat×k))(R:pd c n 0 es=I)(H:es[i]? =Y (e,r))(f:Nat->k)(z:i<a.size)
  (A: ∀x m y v W,(x,v)∈proj m->(x,W)∈proj e->nR e r m y=I) (o: ∀j,j<U es->o7 c n i j=I->a.getD j I=ao) (X:a.getD i I=ao):
  eD (ji ((es.map (·.1)).map proj) 0 (λj=>a.getD j I) f) (proj e)=ji ((es.map (·.1)).map proj) 0 (λj=>(a.setIfInBounds i I).getD j I) f:=by
 funext x;have q: ∀j,j≠i->(a.setIfInBounds i I).getD j I=a.getD j I:=λj B=>by
  simp[Array.getD_eq_getD_getElem?,Array.getElem?_setIfInBounds_ne (Ne.symm B)]
 have C:(a.setIfInBounds i I).getD i I=I:=by
  simp[Array.getD_eq_getD_getElem?,z]
 have F:((es.map (·.1)).map proj)[i]? =Y (proj e):=by simp[H]
 by_cases L: ∃v,(x,v)∈proj e
 ·obtain⟨Q,w⟩:=L;symm;refine RU _ 0 _ f x i (proj e) F ⟨Q,w⟩ (by rw[e6];exact C) ?_ _;intro j b B h ⟨v,G⟩;rw[e6,q j O];simp only[List.map_map,List.getElem?_map] at h;cases d:es[j]? with
  |none=>rw[d] at h;cases h
  |some p=>
   obtain⟨m,y⟩:=p;rw[d] at h;simp at h;subst h;have br:=DP es 0 R i j e r m y H d B (A x m y v Q G w);rw[e6,e6] at br;exact o j (cI.1 d).1 br
 rw[o8 _ _ _ λv G=>L ⟨v,G⟩];refine DN _ 0 _ _ f f x rfl ?_
 grind
theorem Rz: ∀(l:List Oper) (a:Nat),uU a l=I-> ∀(i:Nat) o,l[i]? =Y o-> ∀e∈o.after,Region.binds .any e=I->e.on<a+i
 | [],_,_,_,_,h=>by simp at h
 |o::l,a,h,0,n,c=>by
  simp at c;subst c;intro e k m;simp only[uU,cJ,List.all_eq_true,Bool.or_eq_true] at h;rcases h.1 e (by simpa using k) with d|d
  ·rw[m] at d;cases d
  simpa[Nat.blt_eq] using d
 |o::l,a,h,i+1,n,c=>by
  simp at c;simp only[uU,cJ] at h;intro e k m
  have:=Rz l (a+1) h.2 i n c e k m;omega
theorem agD{Q:S->Prop}{Ap:Exit->Act->bY->Prop}(hp:pd l.toArray (U l) 0 es=I)(he:uU 0 l=I)(cN:z1 K l.toArray l es s Q)
  (M2: ∀E a w,Rel K E (kh (es.map (·.1)) 0 (λ_=>I) s) a w->Ap .normal a w):
  ∀(d:Nat) (c:Array Bool) (z:List Nat),c.size=U l->z.Nodup->U z=d->(∀i,c.getD i I=ao↔i∈z)->Vk l.toArray c->
   ∀E a w,Rel K E (kh (es.map (·.1)) 0 (λj=>c.getD j I) s) a w->wpAny K.P .any l.toArray Ap d c a w:=by
 obtain⟨hlen,_,alh⟩:=DZ l es s Q cN
 -- if nothing is ready, all is done
 have hall: ∀(c:Array Bool) (z:List Nat),c.size=U l->(∀i,c.getD i I=ao↔i∈z)->z≠[]->Region.ready .any l.toArray c≠[]:=by
  intro c z R M N;have key: ∀n,(∃i,i∈z/\i<=n)-> ∃m,m∈z/\ ∀j,j<m->j∉z:=by
   intro n;induction n with
   |zero=>rintro⟨i,aO,hle⟩;exact⟨0,by rwa [show i=0 by omega] at aO,λj W=>O⟩
   |succ n mS=>
    rintro⟨i,aO,hle⟩;by_cases h: ∃i,i∈z/\i<=n
    ·exact mS h
    have:i=n+1:=by
     rcases Nat.lt_or_ge i (n+1) with hlt|jt
     ·exact bu ⟨i,aO,O⟩ h
     omega
    subst this;exact⟨n+1,aO,λj W akX=>h ⟨j,akX,O⟩⟩
  obtain⟨x,hx⟩:=Dd z N;obtain⟨m,hm,an1⟩:=key x ⟨x,hx,dV _⟩;have ak':=(M m).2 hm;have Wn:m<U l:=by
   grind
  intro X
  have:m∈Region.ready .any l.toArray c:=by
   rw[mem_ready];refine⟨ak',l[m],by simp[Wn],λe akD b=>?_⟩;have hlt:=Rz l 0 he m l[m] (bO Wn) e akD b
   grind
  grind
 have T: ∀(c:Array Bool),(∀i,c.getD i I=I)->kh (es.map (·.1)) 0 (λj=>c.getD j I) s=kh (es.map (·.1)) 0 (λ_=>I) s:=by
  grind
 intro d;induction d with
 |zero=>
  intro c z R V B M ch E a w cC;have X:z=[]:=oJ B;subst X;have F: ∀i,c.getD i I=I:=λi=>by
   cases h:c.getD i I with
   |true=>rfl
   |false=>have:=(M i).1 h;simp at this
  refine⟨?_,M2 E a w (by rw[<-T c F];exact cC)⟩;cases als:Region.ready .any l.toArray c with
  |nil=>rfl
  |cons x xs=>
   have:x∈Region.ready .any l.toArray c:=by rw[als];simp
   rw[mem_ready] at this;rw[F x] at this;exact bu this.1 aZ
 |succ d mS=>
  intro c z R V B M ch E a w cC;have N:z≠[]:=by intro e;subst e;simp at B
  refine⟨λh=>bu h (hall c z R M N),λi aO=>?_⟩;obtain⟨y,o,eI,f⟩:=mem_ready.1 aO;have Nd:i<U l:=by
   rcases Nat.lt_or_ge i (U l) with h|h
   ·exact h
   rw[Array.getElem?_eq_none (by simpa using h)] at eI;cases eI
  have Ni:l[i]? =Y o:=by simpa using eI
  obtain⟨⟨e,r⟩,C⟩: ∃p,es[i]? =Y p:=⟨es[i]' O,by simp[show i<U es by omega]⟩
  have G: ∀j,o7 l.toArray (U l) j i=I->c.getD j ao=I:=λj b=>OK ch _ j i b λHl A=>by rw[eI] at A;cases A;exact f
  have q: ∀j,j<U es->o7 l.toArray (U l) i j=I->c.getD j I=ao:=λj W b=>by
   cases ak5:c.getD j I with
   |false=>rfl
   |true=>
    have L:=OK ch _ i j b λHl A=>ch j Hl A ak5;have WD:i<c.size:=O
    simp only[Array.getD_eq_getD_getElem?,Array.getElem?_eq_getElem WD,Option.getD_some] at L y;rw[y] at L;cases L
  have alC:r.same (kh (es.map (·.1)) 0 (λj=>c.getD j I) s) (kh (es.map (·.1)) 0 (λj=>ey j i) s):=by
   refine⟨λx hx=>?_,λk hk=>⟨?_,?_⟩⟩
   ·exact KE (·.ts) hp C s.t x (λg CQ v b0=>by simp[nR,Kk b0 hx]) G q y
   ·exact KE (·.hs) hp C s.H k (λg CQ v b0=>by simp[nR,Kk b0 hk]) G q y
   exact KE (·.us) hp C s.u k (λg CQ v b0=>by simp[nR,Kk b0 hk]) G q y
  have alH:e.app (kh (es.map (·.1)) 0 (λj=>c.getD j I) s)=kh (es.map (·.1)) 0 (λj=>(c.setIfInBounds i I).getD j I) s:=by
   unfold dY.app kh;simp only[S.mk.injEq];refine⟨?_,?_,?_⟩
   ·exact J' (·.ts) hp C s.t O (λx g CQ v fr L h2=>by simp[nR,Jn h2 L]) q y
   ·exact J' (·.hs) hp C s.H O (λx g CQ v fr L h2=>by simp[nR,Jn h2 L]) q y
   exact J' (·.us) hp C s.u O (λx g CQ v fr L h2=>by simp[nR,Jn h2 L]) q y
  have alg:=alh i o e r Ni C _ alC;have akH: ∀β' rf bZ,Rel K β' (e.app (kh (es.map (·.1)) 0 (λj=>c.getD j I) s)) rf bZ->wpAny K.P .any l.toArray Ap d (c.setIfInBounds i I) rf bZ:=by
   intro β' rf bZ Wy;rw[alH] at Wy;have akP:=(M i).1 y;refine mS (c.setIfInBounds i I) (z.erase i) (by simpa using R) (V.erase i) (by rw[List.length_erase_of_mem akP];omega) (λj=>?_) ?_ β' rf bZ Wy
   ·rw[V.mem_erase_iff];by_cases W:j=i
    ·subst W;simp[Array.getD_eq_getD_getElem?,show j<c.size by omega]
    simp only[Array.getD_eq_getD_getElem?,Array.getElem?_setIfInBounds_ne (Ne.symm W)]
    have:=M j;rw[uB] at this;rw[this];simp[W]
   intro j Hl A W g Wd b;by_cases Wi:j=i
   ·subst Wi;rw[eI] at A;cases A;exact getD_set_true (f g Wd b)
   have L:c.getD j I=I:=by
    simpa only[Array.getD_eq_getD_getElem?,Array.getElem?_setIfInBounds_ne (Ne.symm Wi)] using W
   exact getD_set_true (ch j Hl A L g Wd b)
  have ak8:=alg E a w (wpAny K.P .any l.toArray Ap d (c.setIfInBounds i I)) Ap cC akH;unfold wpOp;rw[eI];exact ak8
theorem SS{Q:Exit->S->Prop}(d:List (dY×iW))(C:K.P.follows .mixedOrders=I)(F:pd l.toArray (U l) 0 d=I)(G:uU 0 l=I)
  (e:z1 K l.toArray l d s λH=>Q .normal H):dH K (.region n l.toArray I) s Q:=by
 intro k a w g m R;obtain⟨_,W,_⟩:=DZ l d s _ e;refine wp_region_any C ?_;have q:Rel K k s a {w with drawn:=w.drawn+1}:=Aw m;have X:kh (d.map (·.1)) 0 (λj=>(Array.replicate l.toArray.size ao).getD j I) s=s:=by
  have A:=(DZ l d s _ e).1;have c: ∀{r:Type} (cD:List (List (Nat×r))) (L:Nat->Bool) (i:Nat) (f:Nat->r),(∀j,j<U cD->L (i+j)=ao)->ji cD i L f=f:=by
   intro r cD L;induction cD with
   |nil=>intro _ _ _;rfl
   |cons x cD b=>
    intro i f h;simp only[ji];have B:=h 0 aZ;rw[uA] at B;rw[B,cond_false];exact b (i+1) f λj y=>by have:=h (j+1) bV;rwa [show i+(j+1)=i+1+j by omega] at this
  have z: ∀j,j<U d->(Array.replicate l.toArray.size ao).getD (0+j) I=ao:=λj y=>by
   rw[e6,uB,Array.getElem?_replicate,bk bV];rfl
  unfold kh;rw[c _ _ _ _ (by simpa using z),c _ _ _ _ (by simpa using z),c _ _ _ _ (by simpa using z)]
 refine agD F G e (λk a w m=>R _ _ _ _ _ W m) l.toArray.size (Array.replicate l.toArray.size ao) (List.range (U l)) aZ List.nodup_range aZ (λi=>?_) ?_ k a _ (by rw[X];exact q)
 ·rw[uB,Array.getElem?_replicate,uy]
  grind
 intro j o p y;rw[uB,Array.getElem?_replicate] at y
 grind
end
end
abbrev D(n:Int):V:= .t (.int .i64 n)
abbrev oM(b:UInt8):V:= .t (.int .u8 (b.toNat:Nat))
abbrev aP(b:Bool):V:= .t (.bool b)
abbrev bf(s:List UInt8):V:= .t (.str s)
abbrev Xp(a:List (List T)):V:= .t (.bX a)
abbrev nF(n:Int):List T:=[.int .i64 n]
abbrev oE(b:UInt8):List T:=[.int .u8 (b.toNat:Nat)]
abbrev aiu(b:Bool):List T:=[.bool b]
abbrev ajh(s:List UInt8):List T:=[.str s]
def gw(P:ee)(f:fQ):Prop:= ∃a,P.funcs[f]? =Y a/\(a.name== "runtime.NumGoroutine")=ao/\a.body.isNone=ao
section
variable {K:Ctx}{s:S}{Q:Exit->S->Prop}
variable {l:List Oper}
theorem Qt{c:Array Oper}{Q:S->Prop}{b:S}(k:s.le K b)(h:pA K c l b Q):pA K c l s Q:=
  λm a w n o q=>let ⟨e,i⟩:=k m a w o;h e a w n i q
theorem ZF{i:Nat}(m:S)(h:pA K l.toArray l s λn=>n.le K m)(o:Q .normal m):dH K (.region i l.toArray ao) s Q:=by intro q a w r x y;refine wp_region_lit (h q a w r x λn c A B C e=>?_);obtain⟨F,k⟩:=C c A B e;exact y _ _ _ _ _ o k
theorem cZ.eq{P:ee}{H:Nat->Option E}{o:Oper}{a:List V}{v fr:V}(h:cZ P H o a v)(e:v=fr):cZ P H o a fr:=e▸h
section
variable {K:Ctx}{s:S}{d:Option Tmp}{ty:bM}{pos:String}{af:Array Edge}{g:Option (Nat×Bool)}
variable {t:bM}{u:gF}{z:bm}{g_ s_ bytes:Nat}
end
end
theorem l6(b:Bool){P:Prop}(a:b=ao->P)(c:b=I->P):P:=by
 cases b with
 |false=>exact a rfl
 |true=>exact c rfl
theorem ht.of_eq{e a:List V}(h:e=a):ht e a:=h▸ht.refl e
section
variable {K:Ctx}{s:S}{ops:Array Oper}{rest:List Oper}{Q:S->Prop}{d:Nat}{ty:bM}{pos:String}{af:Array Edge}{j:Nat}{want:Bool}{t:Nat}
end
section
mutual
def V.fq(L:List Nat):V->V
  | .ref id a=> .ref (L.getD id 0) a
  | .bE id g_ c a d=> .bE (L.getD id 0) g_ c a d
  | .c' id g_ c i a=> .c' (L.getD id 0) g_ c i a
  | .agg cs=> .agg (ks L cs)
  | .dB cs=> .dB (ks L cs)
  | .fn f cs=> .fn f (ks L cs)
  | .t x=> .t x
  | .bc x=> .bc x
  | .d'=> .d'
def ks(L:List Nat):List V->List V
  | []=>[]
  |c::cs=>c.fq L::ks L cs
end
def E.fq(L:List Nat):E->E
  | .cells cs=> .cells (ks L cs)
  | .arr ty g_ c a=> .arr ty g_ c a
  | .bn d m g_ a e=> .bn d m g_ a (e.map λh=>(h.1,h.2.1,h.2.2.fq L))
theorem i8{L:List Nat}: ∀cs:List V,U (ks L cs)=U cs
  | []=>rfl
  |c::cs=>by simp[ks,i8 cs]
theorem KO{L:List Nat}: ∀(cs:List V) (i:Nat),(ks L cs)[i]? =(cs[i]?).map (V.fq L)
  | [],_=>by simp[ks]
  |c::cs,0=>by simp[ks]
  |c::cs,i+1=>by simp[ks,KO cs i]
variable {L:List Nat}{w:bY}{X:Nat->Prop}
theorem Eg{a:List V}{i:Nat}{c:V}(h:(ks L a)[i]? =Y c): ∃d,a[i]? =Y d/\c=d.fq L:=by
  rw[KO] at h
  grind
theorem bI.fq{β G:Map}{v:V}{u:bm}(h:bI β w X v u)(e: ∀k x,β k=Y x->G (L.getD k 0)=Y x):bI G w X (v.fq L) u:=by
  induction h with
  |t x v h=>exact .t x v h
  |agg cs z o _ A=>exact .agg _ z (by rw[i8];exact o) (λi c u r B=>by obtain⟨C,F,rfl⟩:=Eg r;exact A i C u F B)
  |dB cs z o _ A=>exact .dB _ z (by rw[i8];exact o) (λi c u r B=>by obtain⟨C,F,rfl⟩:=Eg r;exact A i C u F B)
  |ref id d b l=>exact .ref _ d b (e _ _ l)
  |bc cells b d f l Q r R=>exact .bc cells b d f l Q r R
  |bE id g_ a d y H b n ty m l W j p o s=>exact .bE _ g_ a d y H b n ty m (e _ _ l) W j p o s
  |jh id g_ a m l=>exact .jh _ g_ a m (e _ _ l)
  |mc id g_ a d y v q g K l m=>exact .mc _ g_ a d y v q g K (e _ _ l) m
  |c' id g_ a i d b m l=>exact .c' _ g_ a i d b m (e _ _ l)
  |nx id g_ a i d v q g K l m=>exact .nx _ g_ a i d v q g K (e _ _ l) m
  |fn f cs z o _ A=>exact .fn f _ z (by rw[i8];exact o) (λi c u r B=>by obtain⟨C,F,rfl⟩:=Eg r;exact A i C u F B)
  |d' v=>exact .d' v
def lg(L:List Nat)(a:Map):Map:=⟨λk=>(L[k]?).bind a,λk b=> ∃id,L[k]? =Y id/\a.n id b⟩
def gI:Nat->(Nat->Bool)
  |0=>iO
  |n+1=>bw (gI n) n I
theorem kZ: ∀{n k:Nat},gI n k=I↔k<n
  |0,k=>by simp[gI,iO]
  |n+1,k=>by
    by_cases h:k=n
    · subst h;simp[gI,c6]
    · rw[gI,cY _ _ _ _ h,kZ];omega
mutual
theorem bI.sb{β:Map}{w:bY}{X:Nat->Prop}{L:List Nat}: ∀(v:V) (u:bm),bI β w X (v.fq L) u->v.ok (gI (U L))=I->bI (lg L β) w X v u
  | .t x,u,h,_=>by
    simp only[V.fq] at h;cases h with|t _ _ h=>exact .t _ _ h
  | .bc x,u,h,_=>by
    simp only[V.fq] at h;cases h with|bc _ b l f a H y z=>exact .bc _ b l f a H y z
  | .d',u,_,_=> .d' u
  | .ref id l,u,h,d=>by
    have e:id<U L:=kZ.1 (by simpa[V.ok] using d);have o:lg L β id=β (L.getD id 0):=by simp[lg,List.getElem?_eq_getElem e]
    simp only[V.fq] at h;cases h with|ref _ _ b a=>exact .ref _ _ b (by rw[o];exact a)
  | .bE id g_ A l K,u,h,d=>by
    have e:id<U L:=kZ.1 (by simpa[V.ok] using d);have o:lg L β id=β (L.getD id 0):=by simp[lg,List.getElem?_eq_getElem e]
    simp only[V.fq] at h;cases h with
    |bE _ _ _ _ _ C b n ty m a Q k R d F=>exact .bE _ _ _ _ _ C b n ty m (by rw[o];exact a) Q k R d F
    |jh _ _ _ m a=>exact .jh _ _ _ m (by rw[o];exact a)
    |mc _ _ _ _ _ _ q g G a m=>exact .mc _ _ _ _ _ _ q g G (by rw[o];exact a) m
  | .c' id g_ A i l,u,h,d=>by
    have e:id<U L:=kZ.1 (by simpa[V.ok] using d);have o:lg L β id=β (L.getD id 0):=by simp[lg,List.getElem?_eq_getElem e]
    simp only[V.fq] at h;cases h with
    |c' _ _ _ _ _ b m a=>exact .c' _ _ _ _ _ b m (by rw[o];exact a)
    |nx _ _ _ _ _ _ q g G a m=>exact .nx _ _ _ _ _ _ q g G (by rw[o];exact a) m
  | .agg cs,u,h,d=>by
    simp only[V.fq] at h;cases h with
    |agg _ r k z=>exact .agg _ r (by rw[i8] at k;exact k) (λi c u y B=>ED cs (λi=>r[i]?) (by simpa[V.ok] using d) z i c u y B)
  | .dB cs,u,h,d=>by
    simp only[V.fq] at h;cases h with
    |dB _ r k z=>exact .dB _ r (by rw[i8] at k;exact k) (λi c u y B=>ED cs (λi=>r[i]?) (by simpa[V.ok] using d) z i c u y B)
  | .fn f cs,u,h,d=>by
    simp only[V.fq] at h;cases h with
    |fn _ _ r k z=>exact .fn _ _ r (by rw[i8] at k;exact k) λi c u y B=>ED cs (λi=>r[i]?) (by simpa[V.ok] using d) z i c u y B
theorem ED{G:Map}{w:bY}{X:Nat->Prop}{L:List Nat}: ∀(cs:List V) (a:Nat->Option bm),V.hK (gI (U L)) cs=I->
    (∀i c u,(ks L cs)[i]? =Y c->a i=Y u->bI G w X c u)-> ∀(i:Nat) c u,cs[i]? =Y c->a i=Y u->bI (lg L G) w X c u
  | [],_,_,_,_,_,_,h,_=>by simp at h
  |c::cs,a,d,h,0,_,u,e,k=>by
    simp at e;subst e;simp[V.hK] at d;exact bI.sb c u (h 0 _ u (by simp[ks]) k) d.1
  |c::cs,a,d,h,i+1,l,u,e,k=>by simp at e;simp[V.hK] at d;exact ED cs (λi=>a (i+1)) d.2 (λi c u m n=>h (i+1) c u (by simpa[ks] using m) n) i l u e k
end
theorem eG.sb{β:Map}{w:bY}{X:Nat->Prop}{L:List Nat}: ∀{a:List V} {c:List bm},eG β w X (ks L a) c->V.hK (gI (U L)) a=I->eG (lg L β) w X a c
  | [],[],_,_=>trivial
  |v::a,u::c,h,d=>by
    simp[V.hK] at d;exact⟨bI.sb v u h.1 d.1,eG.sb h.2 d.2⟩
  | [],_::_,h,_=>h.elim
  |_::_,[],h,_=>h.elim
def gx:List E->Nat->(Nat->Option E)
  | [],_=>q6
  |e::a,k=>bw (gx a (k+1)) k (Y e)
theorem RH: ∀(a:List E) (k i:Nat),gx a k (k+i)=a[i]?
  | [],_,_=>by simp[gx,q6]
  |e::a,k,0=>by rw[uA,gx,c6];simp
  |e::a,k,i+1=>by rw[gx,cY _ _ _ _ O,show k+(i+1)=(k+1)+i by omega,RH a (k+1) i];simp
theorem Dr(a:List E)(i:Nat):gx a 0 i=a[i]? :=by have:=RH a 0 i;rwa [e6] at this
def mh(X:Nat->Prop)(a:Map)(H:Nat->Option E)(b:Nat):Prop:=X b\/ ∃id,H id≠al/\At a id b
structure xo (G:gC) (jd:List E) (β:Map) (w:bY) (X:Nat->Prop):Prop where
  fw: ∀k,U jd<=k->β k=al
  fS: ∀k b,U jd<=k-> ¬β.n k b
  inj: ∀id k9 b,At β id b->At β k9 b->id=k9
  place: ∀k b,At β k b->b<w.heap.size/\ ¬X b/\G.Cw<=b
  heap: ∀k e,jd[k]? =Y e->dJ β w (mh X β (gx jd 0)) k e
structure Left (hq β:Map) (jd out:List E) (w bZ:bY) (X:Nat->Prop) (r:V) (u:bm):Prop where
  ext:Ext (λb=> ∃k,At hq k b) w bZ
  base:mz (U jd) hq β w.heap.size
  j':Shaped hq w bZ
  fw: ∀k,U out<=k->β k=al
  fS: ∀k b,U out<=k-> ¬β.n k b
  inj: ∀id k9 b,At β id b->At β k9 b->id=k9
  fresh: ∀k b,At β k b->((∃dn,dn<U jd/\At hq dn b)\/w.heap.size<=b)/\b<bZ.heap.size
  heap: ∀k e,out[k]? =Y e->dJ β bZ (mh X β (gx out 0)) k e
  res:bI β bZ (mh X β (gx out 0)) r u
def Pq(P:ee)(G:gC)(f:fQ)(c:List E)(args:List V){ι:Type}(k:ι->Prop)(r:ι->V)(d:ι->List E):Prop:=
  ∀(w:bY) (X:Nat->Prop) (a:Map) (h:List bm),G.ok w->(∀b,X b->b<w.heap.size)->xo G c a w X->eG a w (mh X a (gx c 0)) args h->
    Calls P f h.toArray w λe l=> ∃u i m,e= .returned u/\k i/\Left a m c (d i) w l X (r i) u
def Ctx.eZ(P:ee)(G:gC)(w:bY)(X:Nat->Prop)(e5:Nat)(hq:Map)(nt:Nat):Ctx:={P,G,w0:=w,X,e5,hq,nt}
def p4(a:List E)(args:List V):S:={t:=xr args 0,H:=gx a 0,u:=gI (U a)}
theorem Rel.p4{P:ee}{G:gC}{nt:Nat}{a:List E}{c:Map}{args:List V}{p:List bm}(r:G.ok w)(x: ∀b,X b->b<w.heap.size)(d:xo G a c w X)
    (h:eG c w (mh X c (gx a 0)) args p) (z:U p<=nt):
    Rel (Ctx.eZ P G w X (U a) c nt) c (Lift.p4 a args) {tmps:=p.toArray++Array.replicate (nt-p.toArray.size) undef,defers:=[]} w:=by
  have k: ∀id b,At c id b->id<U a:=by
    rintro id b (⟨g,h⟩|h)
    · apply wN;intro l;rw[d.fw id l] at h;cases h
    · exact wN λl=>d.fS id b l h
  refine {ext:=Ext.refl _ _,tn:=r,tU:= ?_,mu:= ?_,base:=mz.refl _ _ _,j':=Shaped.refl _ _,low:=λid h=>kZ.2 h,fw:= ?_,fS:= ?_,
           yN:=d.inj,inj:=d.inj,fresh:=λid b h=>⟨.inl ⟨id,k id b h,h⟩,(d.place id b h).1⟩,heap:= ?_,eE:= ?_,nt:= ?_,defers:=rfl}
  · rintro b ⟨id,_,h⟩;exact(d.place id b h).2.2
  · intro b q;exact⟨x b q,λ⟨id,_,h⟩=>(d.place id b h).2.1 q⟩
  · intro id hid;apply d.fw;apply Nat.le_of_not_lt;intro k;have m:=kZ.2 k;have n:gI (U a) id=ao:=hid
    grind
  · intro id b hid h;have m:=kZ.2 (k id b (.inr h));have n:gI (U a) id=ao:=hid
    grind
  · intro id e y;have o:a[id]? =Y e:=by rw[<-Dr];exact y
    refine⟨kZ.2 ?_,d.heap id e o⟩
    grind
  · intro i;have m:=Jb args p 0 h i;rw[e6] at m;have n:(p.toArray++Array.replicate (nt-p.toArray.size) undef).getD i undef=p.getD i undef:=by
      simp only[Array.getD_eq_getD_getElem?,List.getD_eq_getElem?_getD,Array.getElem?_append]
      grind
    simp only[n];exact m
  · simp[Ctx.eZ];omega
end
section
def nE{R:Type}(f:Nat->R):List Nat->(Nat->R)->(Nat->R)
 | [],_=>f
 |l::L,g=>bw (nE f L λk=>g (k+1)) l (g 0)
theorem pU{k:Type}{f:Nat->k}: ∀{L:List Nat} {g:Nat->k} {id:Nat},id∉L->nE f L g id=f id
 | [],_,_,_=>rfl
 |l::L,g,id,h=>by simp at h;rw[nE,cY _ _ _ _ h.1];exact pU h.2
theorem qM{R:Type}{f:Nat->R}: ∀{L:List Nat} {g:Nat->R} {k id:Nat},L.Nodup->L[k]? =Y id->nE f L g id=g k
 | [],_,_,_,_,h=>by simp at h
 |l::L,g,0,id,_,h=>by simp at h;subst h;rw[nE,c6]
 |l::L,g,k+1,id,a,h=>by simp at h a;have c:id≠l:=λe=>a.1 (e▸ca h);rw[nE,cY _ _ _ _ c];exact qM (g:=λk=>g (k+1)) a.2 h
theorem Ki: ∀{L:List Nat} {i j id:Nat},L.Nodup->L[i]? =Y id->L[j]? =Y id->i=j
 | [],_,_,_,_,h,_=>by simp at h
 |l::L,0,0,_,_,_,_=>rfl
 |l::L,0,j+1,id,a,h,c=>by simp at h c a;subst h;exact bu (ca c) a.1
 |l::L,i+1,0,id,a,h,c=>by simp at h c a;subst c;exact bu (ca h) a.1
 |l::L,i+1,j+1,id,a,h,c=>by simp at h c a;rw[Ki a.2 h c]
def S.after(s:S)(L:List Nat)(a:List E):S:=
 {t:=s.t,H:=nE s.H L λk=>(a[k]?).map (E.fq L),u:=nE s.u L (λ_=>I)}
def Jf(K:Ctx)(o:Oper)(s:S){k:Type}(h:k->Prop)(l:k->S):Prop:=
 ∀m a w next Q,Rel K m s a w->(∀i,h i-> ∀c d e,Rel K c (l i) d e->next d e)->o.wp K.P a w next Q
variable {β:Map}{w:bY}{X:Nat->Prop}{L:List Nat}{k:Nat}{e:E}{f:fQ}
theorem dJ.sb{id:Nat}(h:dJ β w X id (e.fq L))(G:L[k]? =Y id)(K:e.ok (gI (U L))=I):dJ (lg L β) w X k e:=by
 have l:lg L β k=β id:=by simp[lg,G]
 cases e with
 |cells cs=>
  obtain⟨b,o,ty,a,d,z,H⟩:=h;rw[i8] at z;refine⟨b,o,ty,by rw[l];exact a,d,z,λi c u A f=>?_⟩;exact bI.sb c u (H i _ u (by rw[KO,A];rfl) f) (zN K A)
 |arr ty g_ Q q=>
  refine⟨h.1,?_⟩;rcases h.2 with ⟨a,d⟩|⟨b,o,a,d⟩
  ·exact .inl ⟨by rw[l];exact a,d⟩
  exact .inr ⟨b,o,by rw[l];exact a,d⟩
 |bn S m g_ q T=>
  refine⟨h.1,?_⟩;have R: ∀c,(lg L β).n k c↔β.n id c:=λc=>⟨λ⟨g,a,d⟩=>by rw[G] at a;cases a;exact d,λh=>⟨id,G,h⟩⟩
  rcases h.2 with ⟨a,d,p⟩|⟨b,o,B,a,d,z,H,W,s,t,M⟩
  ·exact .inl ⟨by rw[l];exact a,d,λc A=>p c ((R c).1 A)⟩
  refine .inr ⟨b,o,B,by rw[l];exact a,d,z,H,λi j r x u aW a2 a3=>⟨λv C=>?_,λN=>?_⟩,s,t,λc=>(R c).trans (M c)⟩
  ·have F:=(W i j r x u aW a2 a3).1 (v.fq L) (fh.2 ⟨_,C,rfl⟩);exact⟨bI.sb v u F.1 (KF K C),F.2⟩
  refine(W i j r x u aW a2 a3).2 λv C=>?_;obtain⟨⟨V,fx,P⟩,F,y⟩:=fh.1 C;simp only[Prod.mk.injEq] at y;obtain⟨rfl,rfl,rfl⟩:=y;exact N P F
theorem dJ.fq{β':Map}{f:Nat->Prop}{H:Nat}(h:dJ β w X k e)(s:L[k]? =Y H)(o: ∀k x,β k=Y x->β' (L.getD k 0)=Y x)(K: ∀b,f b->X b)(g: ∀b,β'.n H b↔β.n k b):dJ β' w f H (e.fq L):=by
 have r: ∀x,β k=Y x->β' H=Y x:=λx Q=>by have:=o k x Q;rwa [fZ,s] at this
 cases e with
 |cells cs=>
  obtain⟨b,y,ty,a,d,z,A⟩:=h;refine⟨b,y,ty,r _ a,d,by rw[i8];exact z,λi c u R t=>?_⟩;obtain⟨M,q,rfl⟩:=Eg R;exact((A i M u q t).fq o).mono (Ext.refl _ _) (λb _=>K b) (fa.refl _) (Shaped.refl _ _)
 |arr ty g_ p C=>
  refine⟨h.1,?_⟩;rcases h.2 with ⟨a,d⟩|⟨b,y,a,d,z,A,q⟩
  ·exact .inl ⟨r _ a,d⟩
  exact .inr ⟨b,y,r _ a,d,z,A,λi j l x u aW a2 a3=>(q i j l x u aW a2 a3).mono (Ext.refl _ _) λb _=>K b⟩
 |bn Γ m g_ C hs=>
  refine⟨h.1,?_⟩;rcases h.2 with ⟨a,d,N⟩|⟨b,y,B,a,d,z,A,q,P,S,T⟩
  ·exact .inl ⟨r _ a,d,λc R=>N c ((g c).1 R)⟩
  refine .inr ⟨b,y,B,r _ a,d,z,A,λi j l x u aW a2 a3=>⟨λv W=>?_,λQ=>?_⟩,P,S,λc=>(g c).trans (T c)⟩
  ·obtain⟨⟨ju,fx,V⟩,h9,F⟩:=fh.1 W;simp only[Prod.mk.injEq] at F;obtain⟨rfl,rfl,rfl⟩:=F;have G:=(q _ _ l x u aW a2 a3).1 V h9;exact⟨(G.1.fq o).mono (Ext.refl _ _) (λb _=>K b) (fa.refl _) (Shaped.refl _ _),G.2⟩
  exact((q i j l x u aW a2 a3).2 λv W=>Q (v.fq L) (fh.2 ⟨_,W,rfl⟩)).mono (Ext.refl _ _) (λb _=>K b) λ_ _=>rfl
theorem eG.app{β:Map}{w:bY}{X:Nat->Prop}: ∀{d a:List V} {e c:List bm},eG β w X d e->eG β w X a c->eG β w X (d++a) (e++c)
 | [],_,[],_,_,h=>h
 |_::_,_,_::_,_,h,k=>⟨h.1,eG.app h.2 k⟩
 | [],_,_::_,_,h,_=>h.elim
 |_::_,_,[],_,h,_=>h.elim
theorem JR{G:Map}{w:bY}{X:Nat->Prop}: ∀{d:List V} {e:List bm},U e=U d->(∀(i:Nat) c u,d[i]? =Y c->e[i]? =Y u->bI G w X c u)->eG G w X d e
 | [],[],_,_=>trivial
 |v::d,u::e,a,h=>⟨h 0 v u rfl rfl,JR (by simpa using a) λi c u k l=>h (i+1) c u (by simpa using k) (by simpa using l)⟩
 | [],_::_,a,_=>by simp at a
 |_::_,[],a,_=>by simp at a
theorem bI.MP{a:List V}{u:bm}(h:bI β w X (.fn f a) u): ∃d:Array bm,u= .func (.func f) #[] d/\eG β w X a d.toList:=by
 cases h with
 |fn _ _ d e h=>exact⟨d,rfl,JR (by simpa using e) λi c u k l=>h i c u k (by simpa using l)⟩
theorem afd{K:Ctx}{s:S}{o:Oper}{xs:Array ct}{Xn:Array bM}{jd:List E}{args:List V}{ι:Type}{ni:ι->Prop}{r:ι->V}{W:ι->List E}(MQ:ct)(L news:List Nat)
  (VO:List V) (eI:o.op= .call {callee:= .value MQ,args:=xs,argTypes:=Xn}) (akK:s.get MQ= .fn f VO)
  (jK:gw K.P f) (cN: ∀i,o.dst=Y i->ey i K.nt=I) (b0:ht (xs.toList.map s.get++VO) (ks L args)) (dm:V.hK (gI (U L)) args=I)
  (oq:U jd=U L) (hH: ∀(k:Nat) (e:E),jd[k]? =Y e-> ∃id,L[k]? =Y id/\s.H id=Y (e.fq L)/\e.ok (gI (U L))=I)
  (tt:(L++news).Nodup) (yw: ∀id,id∈news->s.u id=ao) (Nn: ∀i,U (W i)=U (L++news))
  (h:Pq K.P K.G f jd args ni r W):Jf K o s ni (λi=>(s.after (L++news) (W i)).put o.dst ((r i).fq (L++news))):=by
 obtain⟨fn,akE,akF,akG⟩:=jK;intro p a w next Q y l
 have vJ:fn.name≠ "runtime.NumGoroutine" :=by simpa using akF
 have mO:fn.body≠al:=by intro e;simp[e] at akG
 obtain⟨us,aku,vO⟩:=(akK▸y.get MQ).MP;have BR:(cE a.eval o).run K.P w= .ok (.enter f (xs.map a.eval++us)) w:=by
  simp[cE,eI,jV,Deferred.ofValue,aku,jU,callFunc,akE,vJ,mO]
 unfold Oper.wp;rw[BR,Oper.upon_enter];let A:Map:=lg L p;let j1:Nat->Prop:=λb=>own K p s.H b/\ ¬ ∃k,At A k b;have mP: ∀k g b,A k=Y (Y b,g)-> ∃id,L[k]? =Y id/\p id=Y (Y b,g):=by
  intro k g b h;cases l:L[k]? with
  |none=>simp[A,lg,l] at h
  |some id=>simp[A,lg,l] at h;exact⟨id,rfl,h⟩
 have t: ∀k b,At A k b-> ∃id,L[k]? =Y id/\At p id b:=by
  rintro k b (⟨g,h⟩|⟨id,m,z⟩)
  ·obtain⟨id,m,z⟩:=mP k g b h;exact⟨id,m,.inl ⟨g,z⟩⟩
  exact⟨id,m,.inr z⟩
 have ake: ∀(k id:Nat),L[k]? =Y id->s.H id≠al:=by
  intro k id l;have hlt:k<U jd:=by rw[oq];exact(cI.1 l).1
  obtain⟨R,m,z,_⟩:=hH k _ (bO hlt);rw[l] at m;cases m;rw[z];simp
 have N: ∀k b,At A k b->own K p s.H b:=by
  intro k b h;obtain⟨id,m,z⟩:=t k b h;exact .inr ⟨id,ake k id m,z⟩
 have Wu: ∀b,mh j1 A (gx jd 0) b->own K p s.H b:=by
  rintro b (h|⟨k,_,z⟩)
  ·exact h.1
  exact N k b z
 have MZ: ∀k b,At A k b->K.M b\/K.w0.heap.size<=b:=by
  intro k b h;obtain⟨id,m,z⟩:=t k b h;exact(y.fresh id b z).1
 have BT: ∀b,own K p s.H b->b<w.heap.size:=by
  rintro b (T|⟨id,_,br⟩)
  ·exact lP (y.mu b T).1 y.ext.size
  exact(y.fresh id b br).2
 have alb:L.Nodup:=(List.nodup_append.1 tt).1;have akT:xo K.G jd A w j1:=by
  refine⟨?_,?_,?_,?_,?_⟩
  ·intro k l;rw[oq] at l;simp[A,lg,List.getElem?_eq_none l]
  ·rintro k b l ⟨id,m,_⟩;rw[oq] at l;rw[zx l] at m;cases m
  ·intro k dn b h o3;obtain⟨id,m,z⟩:=t k b h;obtain⟨R,aj2,h2'⟩:=t dn b o3;have he:=y.inj id R b z h2';subst he;have l:=(cI.1 m).1;exact Ki alb m aj2
  ·intro k b C;refine⟨BT b (N k b C),λT=>T.2 ⟨k,C⟩,?_⟩;rcases MZ k b C with B|B
   ·exact y.tU b B
   exact iD y.tn.1 B
  intro k e he;obtain⟨id,m,z,h4⟩:=hH k e he;have jL:=dJ.sb (y.heap id _ z).2 m h4;exact jL.mono (Ext.refl _ _) (λb _=>Wu b) (fa.refl _) (λ_ h=>h) (Shaped.refl _ _) λ_ _=>rfl
 have akk:=(eG.sb (((y.qz xs.toList).app vO).le b0) dm).mono (Ext.refl _ _) (λb _=>Wu b) (fa.refl _) (Shaped.refl _ _);have ch:=h w j1 A _ y.GG (λb br=>BT b br.1) akT akk;have he:(cb a.eval xs.toList++us.toList).toArray=xs.map a.eval++us:=by rw[<-zC,<-Array.toList_append]
 rw[he] at ch;refine ch.mono ?_;rintro e bZ ⟨u,i,X,rfl,al8,d⟩;let F:=L++news;let pt:Map:=⟨nE p F X,λid b=>(id∉F/\p.n id b)\/ ∃k,F[k]? =Y id/\X.n k b⟩
 let s2:=s.after F (W i);have ak6: ∀k,k<U L->F[k]? =L[k]? :=λk l=>ll l;have v: ∀id,id∈F-> ∃k:Nat,F[k]? =Y id/\k<U (W i):=by
  intro id hid;obtain⟨k,l,e⟩:=List.mem_iff_getElem.1 hid;exact⟨k,cI.2 ⟨l,e⟩,by rw[Nn];exact l⟩
 have Ab: ∀id,id∉F->pt id=p id:=λid h=>pU h;have DD: ∀k id,F[k]? =Y id->pt id=X k:=λk id h=>qM tt h;have OZ: ∀k id,k<U L->F[k]? =Y id->(X k=p id)\/ ∃q g ub iM,p id=Y (q,g)/\1<=g/\X k=Y (ub,iM)/\g<iM/\ ∀b,ub=Y b->q=Y b\/w.heap.size<=b:=by
  intro k id l h;have br:=d.base k (by rw[oq];exact l);rw[ak6 k l] at h;have e:A k=p id:=by simp[A,lg,h]
  rw[e] at br;exact br
 have Wq: ∀k id,U L<=k->F[k]? =Y id->id∈news:=by
  intro k id l h;rw[lk l] at h;exact ca h
 have O0:fa p pt:=by
  intro id q g T;by_cases hid:id∈F
  ·obtain⟨k,l,_⟩:=v id hid;by_cases qE:k<U L
   ·rw[DD k id l];rcases OZ k id qE l with e|⟨oH,g1,ub,iM,aW,a2,a3,a4,_⟩
    ·exact .inl (e.trans T)
    rw[T] at aW;cases aW;exact .inr ⟨a2,ub,iM,a3,a4⟩
   have:=y.fw id (yw id (Wq k id O l));rw[this] at T;cases T
  exact .inl (by rw[Ab id hid];exact T)
 have akc: ∀k id,F[k]? =Y id->s2.H id=((W i)[k]?).map (E.fq F):=λk id h=>qM tt h;have V3: ∀id,id∉F->s2.H id=s.H id:=λid h=>pU h;have Wt: ∀id b,id∉F->At p id b-> ¬ ∃k,At A k b:=by
  rintro id b hid br ⟨k,h⟩;obtain⟨R,m,z⟩:=t k b h
  have:=y.inj id R b br z;subst this;exact hid (q0 _ (ca m))
 have GL: ∀id b,At pt id b->(id∉F/\At p id b)\/ ∃k,F[k]? =Y id/\At X k b:=by
  rintro id b (⟨g,h⟩|⟨m,z⟩|⟨k,m,z⟩)
  ·by_cases hid:id∈F
   ·obtain⟨k,l,_⟩:=v id hid;rw[DD k id l] at h;exact .inr ⟨k,l,.inl ⟨g,h⟩⟩
   rw[Ab id hid] at h;exact .inl ⟨hid,.inl ⟨g,h⟩⟩
  ·exact .inl ⟨m,.inr z⟩
  exact .inr ⟨k,m,.inr z⟩
 have hO: ∀b,own K pt s2.H b->mh j1 X (gx (W i) 0) b:=by
  rintro b (T|⟨id,m,z⟩)
  ·refine .inl ⟨.inl T,?_⟩;rintro⟨k,C⟩;rcases MZ k b C with B|B
   ·exact(y.mu b T).2 B
   have:=(y.mu b T).1;omega
  rcases GL id b z with ⟨hid,h2'⟩|⟨k,l,C⟩
  ·rw[V3 id hid] at m;exact .inl ⟨.inr ⟨id,m,h2'⟩,Wt id b hid h2'⟩
  have qE:k<U (W i):=by rw[Nn];exact(cI.1 l).1
  refine .inr ⟨k,?_,C⟩;rw[Dr,bO qE];simp
 have anK: ∀k b,At X k b->k<U (W i):=by
  rintro k b (⟨g,h⟩|h)
  ·apply wN;intro hle;rw[d.fw k hle] at h;cases h
  exact wN λhle=>d.fS k b hle h
 have V6: ∀b,b<w.heap.size->own K pt s2.H b->own K p s.H b:=by
  intro b M6 br;rcases hO b br with m|⟨k,_,C⟩
  ·exact m.1
  rcases(d.fresh k b C).1 with ⟨dn,_,B⟩|B
  ·exact N dn b B
  omega
 have V0:Ext (own K p s.H) w bZ:=d.ext.weaken λb _ ⟨k,C⟩=>N k b C;have V':Shaped p w bZ:=λb br=>d.j' b br;have Wz: ∀k x,X k=Y x->pt (F.getD k 0)=Y x:=by
  intro k x T;have hlt:k<U (W i):=by
   apply wN;intro hle;rw[d.fw k hle] at T;cases T
  rw[Nn] at hlt;have b9:F[k]? =Y F[k]:=bO hlt;rw[fZ,b9];exact(DD k _ b9).trans T
 have hold: ∀k b,At X k b->(∃id,id∈F/\At p id b)\/w.heap.size<=b:=by
  intro k b br;rcases(d.fresh k b br).1 with ⟨dn,B,h4⟩|B
  ·obtain⟨R,e1,e2⟩:=t dn b h4;exact .inl ⟨R,q0 _ (ca e1),e2⟩
  exact .inr B
 have hrel:Rel K pt s2 a bZ:=by
  refine {y with ext:= ?_,base:= ?_,j':= ?_,low:= ?_,fw:= ?_,fS:= ?_,inj:= ?_,fresh:= ?_,heap:= ?_,eE:= ?_}
  ·refine y.ext.trans' (d.ext.weaken ?_);rintro b _ ⟨k,C⟩ ⟨m,z⟩;rcases MZ k b C with B|B
   ·exact z B
   omega
  ·refine y.base.more λid hid=>?_;by_cases hm:id∈F
   ·obtain⟨k,l,_⟩:=v id hm;by_cases qE:k<U L
    ·rw[DD k id l];rcases OZ k id qE l with e|⟨q,g,ub,iM,aW,a2,a3,a4,a5⟩
     ·exact .inl e
     exact .inr ⟨q,g,ub,iM,aW,a2,a3,a4,λb br=>by
      rcases a5 b br with c|c
      ·exact .inl c
      exact .inr (iD y.ext.size c)⟩
    have m:=yw id (Wq k id O l);rw[y.low id hid] at m;cases m
   exact .inl (Ab id hm)
  ·intro b B;exact(d.j' b (lP B y.ext.size)).trans (y.j' b B)
  ·intro id hid;by_cases hm:id∈F
   ·obtain⟨k,l,_⟩:=v id hm;exact qM (f:=s.u) (g:=λ_=>I) tt l
   exact(pU hm).trans (y.low id hid)
  ·intro id hid;by_cases hm:id∈F
   ·obtain⟨k,l,_⟩:=v id hm
    have:s2.u id=I:=qM (f:=s.u) (g:=λ_=>I) tt l;rw[this] at hid;cases hid
   rw[Ab id hm];exact y.fw id ((pU (f:=s.u) (g:=λ_=>I) hm).symm.trans hid)
  ·rintro id b hid (⟨m,z⟩|⟨k,l,z⟩)
   ·exact y.fS id b ((pU (f:=s.u) (g:=λ_=>I) m).symm.trans hid) z
   have:s2.u id=I:=qM (f:=s.u) (g:=λ_=>I) tt l;rw[this] at hid;cases hid
  ·intro id R b m z;rcases GL id b m with ⟨m1,aW⟩|⟨k,l,aW⟩<;>rcases GL R b z with ⟨m2,a2⟩|⟨dn,qD,a2⟩
   ·exact y.inj id R b aW a2
   ·rcases hold dn b a2 with ⟨B5,B,h4⟩|B
    ·have:=y.inj id B5 b aW h4;subst this;exact bu B m1
    have:=(y.fresh id b aW).2;omega
   ·rcases hold k b aW with ⟨B5,B,h4⟩|B
    ·have:=y.inj R B5 b a2 h4;subst this;exact bu B m2
    have:=(y.fresh R b a2).2;omega
   have:=d.inj k dn b aW a2;subst this;rw[l] at qD;cases qD;rfl
  ·intro id b m;rcases GL id b m with ⟨_,aW⟩|⟨k,l,aW⟩
   ·exact⟨(y.fresh id b aW).1,lP (y.fresh id b aW).2 d.ext.size⟩
   refine⟨?_,(d.fresh k b aW).2⟩;rcases hold k b aW with ⟨B5,_,B⟩|B
   ·exact(y.fresh B5 b B).1
   exact .inr (iD y.ext.size B)
  ·intro id e he;by_cases hm:id∈F
   ·obtain⟨k,l,qE⟩:=v id hm;refine⟨qM (f:=s.u) (g:=λ_=>I) tt l,?_⟩;rw[akc k id l,bO qE] at he;simp at he;subst he;exact dJ.fq (d.heap k _ (bO qE)) l Wz hO (λb=>⟨λh=>by
     rcases h with ⟨m,_⟩|⟨dn,m,z⟩
     ·exact bu hm m
     have:=Ki tt m l;subst this;exact z,λh=> .inr ⟨k,l,h⟩⟩)
   rw[V3 id hm] at he;obtain⟨m,z⟩:=y.heap id e he;refine⟨(pU (f:=s.u) (g:=λ_=>I) hm).trans m,?_⟩;exact z.mono V0 V6 O0 (λx T=>by rw[Ab id hm];exact T) V' (λb br=>d.ext.keep b (y.fresh id b br).2 (Wt id b hm br)) (λb=>⟨λh=>by
    rcases h with ⟨_,h⟩|⟨dn,m,_⟩
    ·exact h
    exact bu (ca m) hm,λh=> .inl ⟨hm,h⟩⟩)
  intro j;exact(y.eE j).mono V0 V6 O0 V'
 exact l i al8 pt _ bZ (hrel.put o.dst cN ((d.res.fq Wz).mono (Ext.refl _ _) (λb _=>hO b) (fa.refl _) (Shaped.refl _ _)))
end
section
variable {K:Ctx}{s:S}{d:Option Tmp}{ty:bM}{pos:String}{af:Array Edge}{g:Option (Nat×Bool)}{f:fQ}{xs:Array ct}{Xn:Array bM}{args:List V}{ι:Type}{ni:ι->Prop}{r:ι->V}{out:ι->List E}
theorem Jf.j{o:Oper}{u:Unit->Prop}{c:Unit->S}(h:Jf K o s u c):fe K o s (c ()):=
 λβ a w next Q e i=>h β a w next Q e λ_ _=>i
variable {ops:Array Oper}{rest:List Oper}{Q:S->Prop}{op:Op}
end
theorem abu(a b:Nat)(c:a<9223372036854775808)(e:b<9223372036854775808):bits .xor .i64 (a:Int) (b:Int)=((a ^^^ b:Nat):Int):=by have h:a ^^^ b<2^63:=Nat.xor_lt_two_pow O O;show IntKind.i64.wrap ((BitVec.ofInt 64 (a:Int) ^^^ BitVec.ofInt 64 (b:Int)).toNat:Int)=_;rw[BitVec.toNat_xor,ofInt_u64 a O,ofInt_u64 b O];exact IntWalk.i64_in _ O
section
variable {P:ee}{H:Nat->Option E}{d:Option Tmp}{ty:bM}{pos:String}{af:Array Edge}{g:Option (Nat×Bool)}
theorem Uc(n:Int):IntKind.u8.wrap n=((UInt8.ofInt n).toNat:Int):=by
 have:IntKind.u8.wrap n=n%256:=by simp[IntKind.wrap,IntKind.bits,IntKind.signed]
 rw[this];simp[UInt8.ofInt];omega
theorem aje(a b:UInt8):IntKind.u8.wrap ((a.toNat:Int)-(b.toNat:Int))=((a-b).toNat:Int):=by rw[Uc];congr 2;apply UInt8.toNat_inj.1;have c:=UInt8.toNat_lt a;have e:=UInt8.toNat_lt b;simp[UInt8.ofInt,UInt8.toNat_sub];omega
theorem acd(x:ct)(c k e:bM)(l:List UInt8)(F:P.underlying c=Y (.slice e))(G:P.underlying e=Y (.int .u8))(K:P.underlying k=Y .string):
  cZ P H ⟨d,.convert c k x,ty,pos,af,g⟩ [Xp (l.map oE)] (bf l):=by
 intro N w X L _ S;refine⟨.string ⟨l.toArray⟩,?_,.t _ _ (.str l)⟩;have j:bI N w X (Xp (l.map oE)) (L x):=S.1;simp only[cE];suffices (convert c k (L x)).run P w= .ok (.string ⟨l.toArray⟩) w by
  simp only[gE,this,gz,jD]
 generalize L x=y at j⊢;cases j with
 |t _ _ h=>
  generalize p:l.map oE=s at h;cases h with
  |iq a m=>
   have r:l=[]:=by simpa using p
   subst r;rw[run_convert_bytes_string w c k e _ _ _ F G K];cases a with
   |none=>simp[Conv.bytesToString];rfl
   |some a=>
    rw[run_bytesToString w a 0 m [] (by simp[su,ss,jD])];rfl
  |bX _ b n A m f br iy u Q T R=>
   subst p;cases r:l with
   |nil=>
    subst r
    have:=XH (P:=P) w c e F G b n 0 m [] rfl (λi v=>O) k K;exact this
   |cons y l'=>
    rw[<-r];have o:A=1:=by
     have:=Q (oE y) (by rw[r];simp);simpa using this.symm
    subst o;have V: ∀(i:Nat) (z:UInt8),l[i]? =Y z->f i 0= .int .u8 (z.toNat:Int):=by
     intro i z B;have M:=R i 0 (oE z) (.int .u8 (z.toNat:Nat)) (by rw[fG,B];rfl) rfl;generalize f i 0=q at M⊢;cases M;rfl
    have:=XH (P:=P) w c e F G b n (U (l.map oE)) m (l.map λz=>(z.toNat:Int)) aZ (λi v=>by
     have C:i<U l:=by simpa using v
     have B:l[i]? =Y l[i]:=bO C;have W:=T i 0 (by simpa using C) O;rw[V i _ B] at W;rw[show n+i*1+0=n+i by omega] at W;rw[W];simp[List.getD_eq_getElem?_getD,B]) k K
    rw[this];congr 2;simp only[strOfNums,List.map_map];congr 2;apply List.ext_getElem?;intro i;rw[fG];cases B:l[i]? with
    |none=>rfl
    |some z=>simp
end
section
variable {K:Ctx}{s:S}{d:Option Tmp}{ty:bM}{pos:String}{af:Array Edge}{g:Option (Nat×Bool)}
variable {t:bM}{u:gF}{z:bm}{s_ bytes:Nat}
theorem afG(k:Nat)(y:s.u k=ao)(e:bM)(A: ∀i,d=Y i->ey i K.nt=I)(B:K.P.underlying t=Y (.slice e))(C:db K.P e u z s_ bytes):
  fe K ⟨d,.buildSlice t 0 #[],ty,pos,af,g⟩ s ((s.new k (.arr e 1 s_ [])).put d (.bE k 1 s_ 0 0)):=by
 intro q a w next Q F m
 have c:(cE a.eval ⟨d,.buildSlice t 0 #[],ty,pos,af,g⟩).run K.P w= .ok (.value (.slice (Y ⟨w.heap.size,0,al⟩) 0 0)) (w.alloc (.cells #[] e)):=by
  simp only[cE,Instr.buildSlice,gE,eR B,gz,C.run_sizeOf,Nat.zero_mul,show¬(0>2^24) by decide,if_false,if_true];simp only[Instr.fill,gE,jD,gz,show Array.range 0= #[] from by simp[Array.range],List.map_toArray,List.map_nil];rfl
 unfold Oper.wp;rw[c];have l:=F.new k 1 y #[] e (.arr e 1 s_ []) λG b f L R W=>⟨dV _,Or.inr ⟨w.heap.size,_,R,by subst L;exact kY _ _,aZ,λ_ h=>by simp at h,λi j X x u h=>by simp at h⟩⟩
 have n:(w.alloc (.cells #[] e)).heap.size=w.heap.size+1:=World.size_alloc ..;have o:(w.alloc (.cells #[] e)).shape? w.heap.size=Y (e,0):=by unfold iV;rw[kY];simp
 have r:bI (q.put k (Y (Y w.heap.size,1))) (w.alloc (.cells #[] e)) (own K (q.put k (Y (Y w.heap.size,1))) (s.new k (.arr e 1 s_ [])).H) (.bE k 1 s_ 0 0)
   (.slice (Y ⟨w.heap.size,0*s_,al⟩) 0 0):= .bE k 1 s_ 0 0 0 w.heap.size 0 e (dV _) (c6 _ _ _) (n▸p7 _) o aZ (dV _) (by unfold maxLen;omega)
 rw[jC] at r;exact m _ _ _ (l.put d A r)
end
def Mi:Option gF->Bool
 |some (.int .i64)=>I
 |_=>ao
theorem afL{o:Option gF}(h:Mi o=I):o=Y (.int .i64):=by
 unfold Mi at h
 grind
def zv(P:ee):List mw->Nat->Bool
 | [],_=>I
 |f::a,i=>f.name != "_" &&Mi (P.underlying f.type)&&cP f.offset i&&zv P a (i+1)
theorem N0{P:ee}{w:bY}{xs ys:Array bm}: ∀(a:List mw) (i:Nat) (ms c:List Int),zv P a i=I->U ms=U a->U c=U a->
  (∀(j:Nat) m,ms[j]? =Y m->xs[i+j]? =Y (.int .i64 m))->(∀(j:Nat) m,c[j]? =Y m->ys[i+j]? =Y (.int .i64 m))->
  (Op.eqFields 9999 xs ys a).run P w= .ok (ak (ms=c)) w
 | [],i,ms,c,_,e,h,_,_=>by
  have F:ms=[]:=by simpa using e
  have G:c=[]:=by simpa using h
  subst F;subst G;simp[Op.eqFields]
 |f::a,i,[],c,_,e,_,_,_=>by simp at e
 |f::a,i,m::ms,[],_,_,h,_,_=>by simp at h
 |f::a,i,m::ms,n::c,z,e,h,A,B=>by
  simp only[zv,cJ] at z;obtain⟨⟨⟨K,l⟩,eI⟩,L⟩:=z;have l:=afL l;have eI:=eg eI;have o:f.name≠ "_" :=by simpa using K
  have C: ∀(cs:Array bm) (v:bm),cs[i]? =Y v->(part f.type cs f.offset).run P w= .ok v w:=by
   intro cs v Q;rw[eI];simp[part,isAgg,eR l,Q]
  have r:=A 0 m rfl;have x:=B 0 n rfl;have R:=N0 (P:=P) (w:=w) a (i+1) ms c L (by simpa using e) (by simpa using h)
   (λj q y=>by rw[show i+1+j=i+(j+1) by omega];exact A (j+1) q (by simpa using y))
   λj q y=>by rw[show i+1+j=i+(j+1) by omega];exact B (j+1) q (by simpa using y)
  simp only[Op.eqFields,o,ne_eq,not_false_eq_true,if_true,gE,C xs _ r,C ys _ x,gz,run_equalIn_int w 9998 f.type .i64 .i64 m n l];by_cases k:m=n
  ·subst k;simp[R]
  simp[k]
section
variable {P:ee}{H:Nat->Option E}{d:Option Tmp}{ty:bM}{pos:String}{af:Array Edge}{g:Option (Nat×Bool)}
theorem Fs{G:Map}{w:bY}{X:Nat->Prop}{e:List Int}{u:bm}(h:bI G w X (.agg (e.map D)) u): ∃a:Array bm,u= .agg a/\ ∀(j:Nat) m,e[j]? =Y m->a[j]? =Y (.int .i64 m):=by
 cases h with
 |agg _ a n o=>
  refine⟨a,rfl,λj m i=>?_⟩;have c:j<a.size:=by
   rw[n,er];exact(cI.1 i).1
  have k:a[j]? =Y a[j]:=jQ c;have l:=o j (D m) _ (by rw[fG,i];rfl) k;rw[k];generalize a[j]=q at l;cases l with|t _ _ h=>cases h;rfl
theorem adu(x y:ct)(t z:bM)(a c:List Int)(A:P.underlying t=Y (.struct (P.fieldsOf t)))(B:P.stoodInHeld t=ao)(C:P.eqGuardType P.depth t=ao)
  (F:zv P (P.fieldsOf t).toList 0=I) (e:cP (U a) (P.fieldsOf t).size=I) (h:cP (U c) (P.fieldsOf t).size=I):
  cZ P H ⟨d,.binOp .neq t x y z,ty,pos,af,g⟩ [.agg (a.map D),.agg (c.map D)] (aP (!decide (a=c))):=by
 intro Q w X q _ r;obtain⟨i,k,G⟩:=Fs r.1;obtain⟨l,n,K⟩:=Fs r.2.1;refine⟨.bool (!decide (a=c)),?_,.t _ _ (.bool _)⟩;have e:=eg e;have h:=eg h;have L:=N0 (P:=P) (w:=w) (xs:=i) (ys:=l) (P.fieldsOf t).toList 0 a c F (by simpa using e) (by simpa using h) (λj m o=>by simpa using G j m o) λj m o=>by simpa using K j m o
 have k:q x=_:=k;have n:q y=_:=n;simp only[cE,k,n,gE,XI w .neq t x y i l C,gz,run_neq_struct,XJ w 9999 t i l A B,L,jD]
theorem adB(x y:ct)(t z:bM)(a c:List Int)(A:P.underlying t=Y (.struct (P.fieldsOf t)))(B:P.stoodInHeld t=ao)(C:P.eqGuardType P.depth t=ao)
  (F:zv P (P.fieldsOf t).toList 0=I) (e:cP (U a) (P.fieldsOf t).size=I) (h:cP (U c) (P.fieldsOf t).size=I):
  cZ P H ⟨d,.binOp .eql t x y z,ty,pos,af,g⟩ [.agg (a.map D),.agg (c.map D)] (aP (ak (a=c))):=by
 intro Q w X q _ r;obtain⟨i,k,G⟩:=Fs r.1;obtain⟨l,n,K⟩:=Fs r.2.1;refine⟨.bool (ak (a=c)),?_,.t _ _ (.bool _)⟩;have e:=eg e;have h:=eg h;have L:=N0 (P:=P) (w:=w) (xs:=i) (ys:=l) (P.fieldsOf t).toList 0 a c F (by simpa using e) (by simpa using h) (λj m o=>by simpa using G j m o) λj m o=>by simpa using K j m o
 have k:q x=_:=k;have n:q y=_:=n;simp only[cE,k,n,gE,XI w .eql t x y i l C,gz,run_eql_struct,XJ w 9999 t i l A B,L,jD]
end
def D5(P:ee)(t:bM)(n:Nat):Prop:=P.underlying t=Y (.struct (P.fieldsOf t))/\P.stoodInHeld t=ao/\P.eqGuardType P.depth t=ao/\zv P (P.fieldsOf t).toList 0=I/\(P.fieldsOf t).size=n
section
variable {P:ee}{H:Nat->Option E}{d:Option Tmp}{ty:bM}{pos:String}{af:Array Edge}{g:Option (Nat×Bool)}
theorem afg(x y:ct)(t l:bM){n:Nat}(i k:List Int)(h:D5 P t n)(m:cP (U i) n=I)(o:cP (U k) n=I):
  cZ P H ⟨d,.binOp .neq t x y l,ty,pos,af,g⟩ [.agg (i.map D),.agg (k.map D)] (aP (!decide (i=k))):=by obtain⟨a,b,c,e,f⟩:=h;exact adu x y t l i k a b c e (by rw[f];exact m) (by rw[f];exact o)
theorem aeS(x y:ct)(t l:bM){n:Nat}(i k:List Int)(h:D5 P t n)(m:cP (U i) n=I)(o:cP (U k) n=I):
  cZ P H ⟨d,.binOp .eql t x y l,ty,pos,af,g⟩ [.agg (i.map D),.agg (k.map D)] (aP (ak (i=k))):=by obtain⟨a,b,c,e,f⟩:=h;exact adB x y t l i k a b c e (by rw[f];exact m) (by rw[f];exact o)
end
section
inductive Jz where
 |bool
 |int (k:jT)
 |string
 |slice (e:Nat)
 |array (n e:Nat)
 |struct (aoZ:List (Nat×Nat))
 |NF
 |other
structure eC where
 u:Jz
 z:bm
 size:Nat
 bytes:Nat
 places:Array (Nat×Nat)
def Jz.agg:Jz->Bool
 | .struct _=>I
 | .array _ _=>I
 |_=>ao
def eC.is(P:ee)(i:eC)(u:gF):Prop:=match i.u with
 | .bool=>u= .bool
 | .int k=>u= .int k
 | .string=>u= .string
 | .slice e=>u= .slice e
 | .array n e=>u= .array n e
 | .struct l=> ∃a,u= .struct a/\a.toList.map (λf=>(f.type,f.offset))=l/\ ∀w,(a.mapM (m:=Sem) λf:mw=>do pure (f.offset,<-nV f.type)).run P w= .ok i.places w
 | .NF=> ∃m,u= .interface m
 | .other=>mF u=ao
def eC.ok(P:ee)(t:bM)(i:eC):Prop:= ∃u,db P t u i.z i.size i.bytes/\i.is P u
variable {P:ee}{t:bM}{i:eC}{a b n:Int}{k R:Type}{x:k}{r l:List k}
theorem eC.ok.agg(h:i.ok P t): ∃u,db P t u i.z i.size i.bytes/\mF u=i.u.agg:=by
 obtain⟨u,e,c⟩:=h;refine⟨u,e,?_⟩;unfold eC.is at c;split at c
 ·rename_i a;rw[a,c];rfl
 ·rename_i a;rw[a,c];rfl
 ·rename_i a;rw[a,c];rfl
 ·rename_i a;rw[a,c];rfl
 ·rename_i a;rw[a,c];rfl
 ·rename_i a;rw[a];obtain⟨k,d,_⟩:=c;rw[d];rfl
 ·rename_i a;rw[a];obtain⟨m,d⟩:=c;rw[d];rfl
 rename_i a;rw[a,c];rfl
theorem eC.ok.kz(h:i.ok P t):(i.u= .bool->P.underlying t=Y .bool)/\(∀k,i.u= .int k->P.underlying t=Y (.int k))/\(i.u= .string->P.underlying t=Y .string)/\
  ∀e,i.u= .slice e->P.underlying t=Y (.slice e):=by obtain⟨u,d,c⟩:=h;refine⟨λa=>?_,λk a=>?_,λa=>?_,λe a=>?_⟩<;>simp only[eC.is,a] at c<;>rw[<-c]<;>exact d.1
theorem eC.ok.st{l:List (Nat×Nat)}(h:i.ok P t)(c:i.u= .struct l): ∃a,db P t (.struct a) i.z i.size i.bytes/\a.toList.map (λf=>(f.type,f.offset))=l/\ ∀w,(a.mapM (m:=Sem) λf:mw=>do pure (f.offset,<-nV f.type)).run P w= .ok i.places w:=by
 obtain⟨u,e,d⟩:=h;simp only[eC.is,c] at d
 grind
def eL:List (Nat×eC)->Nat->Option eC
 | [],_=>al
 |(t,i)::l,k=>bif cP t k then Y i else eL l k
def fm(P:ee)(a:List (Nat×eC)):Prop:= ∀t i,eL a t=Y i->i.ok P t
theorem fm.nil:fm P []:=λ_ _ h=>by cases h
theorem fm.cons{a:List (Nat×eC)}{t:Nat}(h:i.ok P t)(e:fm P a):fm P ((t,i)::a):=by
 intro k j c;simp only[eL] at c;cases d:cP t k with
 |true=>rw[d] at c;cases c;rw[<-eg d];exact h
 |false=>rw[d] at c;exact e k j c
inductive dq where
 |row (r:List T)
 |rows (r:List (List T))
 |str (s:List UInt8)
 |int (n:Int)
 |nat (n:Nat)
 |b (w:Bool)
 |y (b:UInt8)
 |v (v:V)
 |grow (slot k:Nat) (e:bM)
 |GF (b j k:Nat)
 |fM (b j k:Nat) (e:bM)
 |len (slot n:Nat)
 |hV (b j n:Nat)
 |vz (k:Nat) (eE:List Nat)
 |dP (k:Nat) (eE blocks:List Nat)
 |eY (k dn:Nat) (eE blocks:List Nat)
 |at (rem:Nat)
 |eZ (L news:List Nat) (r:V) (out:List E)
 |eW (k:Nat) (Γ:List ez) (m:Nat)
 |ej (k:Nat)
 |eX (k dn i j:Nat) (row:List T)
 |ek (k dn:Nat) (row:List T) (R:List (List T))
 |lt (k:Nat) (Γ:List ez) (m:Nat)
 |MO (k i j:Nat) (row:List T)
 |Ib (k:Nat) (row:List T) (R:List (List T))
 |ym (i j k:Nat) (e:bM)
 |cut (k n:Nat) (R:List (List T))
inductive eM where
 |p (p:Prop)
 |q (a b:Nat)
def dw:List eM->Prop
 | []=>True
 | .p p::l=>p/\dw l
 | .q a b::l=>a=b/\dw l
def CD:List eM->Prop
 | []=>True
 | .p p::l=>p/\CD l
 | .q _ _::l=>CD l
def zc:List eM->List Nat
 | []=>[]
 | .p _::l=>zc l
 | .q a _::l=>a::zc l
def zd:List eM->List Nat
 | []=>[]
 | .p _::l=>zd l
 | .q _ b::l=>b::zd l
theorem dw.of: ∀{l:List eM},CD l->zc l=zd l->dw l
 | [],_,_=>trivial
 | .p _::_,h,k=>⟨h.1,dw.of h.2 k⟩
 | .q _ _::_,h,k=>by simp only[zc,zd,List.cons.injEq] at k;exact⟨k.1,dw.of h k.2⟩
theorem dw.app: ∀{l m:List eM},dw (l++m)->dw l/\dw m
 | [],_,h=>⟨trivial,h⟩
 | .p _::_,_,h=>⟨⟨h.1,(dw.app h.2).1⟩,(dw.app h.2).2⟩
 | .q _ _::_,_,h=>⟨⟨h.1,(dw.app h.2).1⟩,(dw.app h.2).2⟩
def aC{k:Type}(l:List k)(i:Int):Option k:=if 0<=i then l[i.toNat]? else al
def sub{k:Type}(l:List k)(a b:Int):Option (List k):=if 0<=a/\a<=b/\b<=U l then Y ((l.take b.toNat).drop a.toNat) else al
def cat(a b:List UInt8):Option (List UInt8):=if(U a:Int)+U b<=9223372036854775807 then Y (a++b) else al
def app{k:Type}(a b:List k):Option (List k):=if U a+U b<=1000000000 then Y (a++b) else al
def mk{k:Type}(n:Int)(x:k):Option (List k):=if 0<=n/\n<=1000000000 then Y (en n.toNat x) else al
def cW{k:Type}(l:List k)(i:Int)(x:k):Option (List k):=if 0<=i/\i<U l then Y (l.set i.toNat x) else al
def wr(n:Int):Int:=IntKind.i64.wrap n
theorem pc{i:Int}(h:aC l i=Y x):0<=i/\l[i.toNat]? =Y x:=by
 unfold aC at h
 grind
theorem UT{i:Int}(f:k->R)(h:aC l i=Y x):aC (l.map f) i=Y (f x):=by
 obtain⟨a,c⟩:=pc h;unfold aC
 grind
theorem EN(h:sub l a b=Y r):0<=a/\a<=b/\b<=U l/\r=(l.take b.toNat).drop a.toNat:=by
 unfold sub at h
 grind
theorem qT(f:k->R)(h:sub l a b=Y r):sub (l.map f) a b=Y (r.map f):=by obtain⟨c,d,e,rfl⟩:=EN h;unfold sub;rw[bk ⟨c,d,by simpa using e⟩,List.map_drop,wU]
theorem xn{a b:List k}(h:app a b=Y r):U a+U b<=1000000000/\r=a++b:=by
 unfold app at h
 grind
theorem cR{a b:List k}(f:k->R)(h:app a b=Y r):app (a.map f) (b.map f)=Y (r.map f):=by
 obtain⟨c,rfl⟩:=xn h;unfold app
 grind
theorem sa(h:mk n x=Y r):0<=n/\n<=1000000000/\r=en n.toNat x:=by
 unfold mk at h
 grind
theorem xD(f:k->R)(h:mk n x=Y r):mk n (f x)=Y (r.map f):=by obtain⟨a,c,rfl⟩:=sa h;unfold mk;rw[bk ⟨a,c⟩,List.map_replicate]
theorem wz{i:Int}(h:cW l i x=Y r):0<=i/\i<U l/\r=l.set i.toNat x:=by
 unfold cW at h
 grind
theorem agq{a b r:List UInt8}(h:cat a b=Y r):(U a:Int)+U b<=9223372036854775807/\r=a++b:=by
 unfold cat at h
 grind
mutual
def p1:V->V
 | .t .hd=> .t (.bX [])
 | .agg cs=> .agg (jy cs)
 | .dB cs=> .dB (jy cs)
 | .t (.bX r)=> .t (.bX r)
 | .t (.int k n)=> .t (.int k n)
 | .t (.bool b)=> .t (.bool b)
 | .t (.str s)=> .t (.str s)
 |v=>v
def jy:List V->List V
 | []=>[]
 |c::cs=>p1 c::jy cs
end
mutual
theorem xB: ∀v:V,eP v (p1 v)
 | .t .hd=>eP.nil
 | .t (.bX _)| .t (.int _ _)| .t (.bool _)| .t (.str _)| .t .fF| .t .hc| .t .p0| .t .err=>eP.refl _
 | .agg cs=>eP.agg (t7 cs)
 | .dB cs=>eP.dB (t7 cs)
 | .ref _ _| .bc _| .bE _ _ _ _ _| .c' _ _ _ _ _| .fn _ _| .d'=>eP.refl _
theorem t7: ∀cs:List V,ht cs (jy cs)
 | []=>trivial
 |c::cs=>⟨xB c,t7 cs⟩
end
theorem wm: ∀cs:List V,U (jy cs)=U cs
 | []=>rfl
 |c::cs=>by simp[jy,wm cs]
def x4(k:Option Nat):List V->List V
 | [.t .hd]=>match k with
  |some _=>[.t .hd]
  |none=>jy [.t .hd]
 |vs=>jy vs
theorem ah4(k:Option Nat)(a:List V):ht a (x4 k a):=by
 unfold x4;split
 ·split
  ·exact ht.refl _
  exact t7 _
 exact t7 _
theorem acz(k:Option Nat)(a:List V):U (x4 k a)=U a:=by
 unfold x4;split
 ·split
  ·rfl
  exact wm _
 exact wm _
def C7:V->Option T
 | .t x=>Y x
 |_=>al
def oa:List V->Option (List T)
 | []=>Y []
 |v::a=>match C7 v,oa a with
  |some x,Y c=>Y (x::c)
  |_,_=>al
theorem qS: ∀{a:List V} {c:List T},oa a=Y c->a=c.map .t
 | [],_,h=>by cases h;rfl
 |v::a,c,h=>by
  simp only[oa] at h;split at h
  ·rename_i x i e d;cases h;have d:=qS d;cases v<;>simp[C7] at e;subst e;subst d;rfl
  cases h
def AY:List V->Option (List Int)
 | []=>Y []
 | .t (.int .i64 m)::a=>match AY a with
  |some ms=>Y (m::ms)
  |none=>al
 |_=>al
theorem zU: ∀{a:List V} {ms:List Int},AY a=Y ms->a=ms.map D
 | [],_,h=>by cases h;rfl
 |v::a,ms,h=>by
  unfold AY at h;split at h
  ·rename_i c;cases c
  ·rename_i m d c;cases c;split at h
   ·rename_i e i;cases h;rw[zU i];rfl
   cases h
  cases h
abbrev j0:=Option (V×List eM×List dq)
def Vz(a:nU)(m n:Int):Option Bool:=
 match a with
 | .eql=>Y (ak (m=n))
 | .neq=>Y (!decide (m=n))
 | .lss=>Y (ak (m<n))
 | .leq=>Y (ak (m<=n))
 | .gtr=>Y (ak (n<m))
 | .geq=>Y (ak (n<=m))
 |_=>al
def U'(a:nU):Bool:=
 match a with
 | .and| .or| .xor| .andNot=>I
 |_=>ao
def Mm(op:nU)(k:jT)(m n:Int)(a:List dq):j0:=
 match op with
 | .add=>Y (.t (.int k (k.wrap (m+n))),[],a)
 | .sub=>Y (.t (.int k (k.wrap (m-n))),[],a)
 | .mul=>Y (.t (.int k (k.wrap (m*n))),[],a)
 | .quo=>Y (.t (.int k (k.wrap (m.tdiv n))),[.p (n≠0)],a)
 | .rem=>Y (.t (.int k (m.tmod n)),[.p (n≠0)],a)
 | .and=>Y (.t (.int k (bits .and k m n)),[],a)
 | .or=>Y (.t (.int k (bits .or k m n)),[],a)
 | .xor=>Y (.t (.int k (bits .xor k m n)),[],a)
 | .andNot=>Y (.t (.int k (bits .andNot k m n)),[],a)
 | .shl| .shr=>al
 |op=>match Vz op m n with
  |some b=>Y (.t (.bool b),[],a)
  |none=>al
def Mv(c:nU)(m n:List UInt8)(a:List dq):j0:=
 match c,a with
 | .add,.str r::a=>Y (.t (.str r),[.p (cat m n=Y r)],a)
 | .eql,a=>Y (.t (.bool (ak (m=n))),[],a)
 | .neq,a=>Y (.t (.bool (!decide (m=n))),[],a)
 | .geq,a=>Y (.t (.bool (!Op.bytesLess m n)),[],a)
 | .lss,a=>Y (.t (.bool (Op.bytesLess m n)),[],a)
 | .gtr,a=>Y (.t (.bool (!Op.bytesLess m n&& !m==n)),[],a)
 | .leq,a=>Y (.t (.bool (Op.bytesLess m n||m==n)),[],a)
 |_,_=>al
def LW:Option eC->Bool
 |some i=>match i.u with
  | .bool=>I
  |_=>ao
 |none=>ao
def Mr(P:ee)(e:List (Nat×eC))(d:nU)(t:bM)(v w:V)(a:List dq):j0:=
 match v,w with
 | .t (.int k m),.t (.int h n)=>if k=h then Mm d k m n a else al
 | .t (.str m),.t (.str n)=>Mv d m n a
 | .t (.bool p),.t (.bool q)=>match LW (eL e t),d with
  |true,.eql=>Y (.t (.bool (p==q)),[],a)
  |true,.neq=>Y (.t (.bool (!(p==q))),[],a)
  |_,_=>al
 | .agg cs,.agg i=>match AY cs,AY i,d,a with
  |some ms,Y c,.eql,.b b::a=>Y (.t (.bool b),[.p (D5 P t (U ms)),.q (U c) (U ms),.p (ak (ms=c)=b)],a)
  |some ms,Y c,.neq,.b b::a=>Y (.t (.bool (!b)),[.p (D5 P t (U ms)),.q (U c) (U ms),.p (ak (ms=c)=b)],a)
  |_,_,_,_=>al
 |_,_=>al
def Mh:Option eC->Bool
 |some i=>match i.u with
  | .NF=>I
  |_=>ao
 |none=>ao
def rM:ct->Bool
 | .const _=>I
 |_=>ao
def Mn(c:List (Nat×eC))(d:nU)(t:bM)(x y:ct)(v w:V)(a:List dq):j0:=
 match Mh (eL c t),rM x||rM y,v,w,d with
 |true,I,.t .err,.t .hc,.eql=>Y (.t (.bool ao),[],a)
 |true,I,.t .err,.t .hc,.neq=>Y (.t (.bool I),[],a)
 |true,I,.t .hc,.t .hc,.eql=>Y (.t (.bool I),[],a)
 |true,I,.t .hc,.t .hc,.neq=>Y (.t (.bool ao),[],a)
 |_,_,_,_,_=>al
def Mz(c:UnOp)(v:V)(a:List dq):j0:=
 match c,v with
 | .not,.t (.bool b)=>Y (.t (.bool (!b)),[],a)
 | .neg,.t (.int k n)=>Y (.t (.int k (k.wrap (0-n))),[],a)
 |_,_=>al
def KC(a:List (Nat×eC)):Option eC->Bool
 |some i=>match i.u with
  | .slice e=>match eL a e with
   |some j=>match j.u with
    | .int .u8=>I
    |_=>ao
   |none=>ao
  |_=>ao
 |none=>ao
def L9(d:List (Nat×eC))(e h:bM)(v:V)(a:List dq):j0:=
 match eL d e,eL d h with
 |some i,Y j=>match j.u,v,a with
  | .int k,.t (.int _ n),.int m::a=>Y (.t (.int k m),[.p (k.wrap n=m)],a)
  | .int .u8,.t (.int _ n),.y m::a=>Y (.t (.int .u8 (m.toNat:Nat)),[.p (UInt8.ofInt n=m)],a)
  | .string,.t (.bX c),.str l::a=>match KC d (Y i) with
   |true=>Y (.t (.str l),[.p (c=l.map oE)],a)
   |false=>al
  |_,_,_=>al
 |_,_=>al
def xI(n:List (Nat×eC))(H:Nat->Option E)(t:bM)(v:V)(h:List dq):j0:=
 match eL n t with
 |none=>al
 |some i=>match v with
  | .ref id a=>match H id with
   |some (.cells cs)=>match i.u.agg with
    |true=>match eh (a+i.size) (U cs) with
     |true=>Y (.agg ((cs.drop a).take i.size),[],h)
     |false=>al
    |false=>match cs[a]? with
     |some c=>Y (c,[],h)
     |none=>al
   |_=>al
  | .bc cs=>match i.u.agg with
   |true=>match eh i.size (U cs) with
    |true=>Y (.agg ((cs.take i.size).map .t),[],h)
    |false=>al
   |false=>match cs with
    |c::_=>Y (.t c,[],h)
    | []=>al
  | .c' id g_ m k a=>match H id,i.u.agg,h with
   |some (.arr _ d l e),ao,.row r::h=>match r[a]? with
    |some c=>Y (.t c,[.q d g_,.q l m,.p (e[k]? =Y r)],h)
    |none=>al
   |some (.arr _ d l e),I,.row r::h=>match eh (a+i.size) (U r) with
    |true=>Y (.agg (((r.drop a).take i.size).map .t),[.q d g_,.q l m,.p (e[k]? =Y r)],h)
    |false=>al
   |_,_,_=>al
  |_=>al
def vj(j:Nat):List (Nat×Nat×V)->Option (Nat×V)
 | []=>al
 |h::a=>bif cP h.2.1 j then Y (h.1,h.2.2) else vj j a
def u0(a:List (Nat×Nat×V)):Nat->Nat->Option (List (Nat×V))
 |_,0=>Y []
 |j,n+1=>match vj j a,u0 a (j+1) n with
  |some x,Y l=>Y (x::l)
  |_,_=>al
def vb(k:Nat):List (Nat×V)->List eM
 | []=>[]
 |x::l=> .q x.1 k::vb k l
def vo(i j:Nat):List (Nat×Nat×V)->List eM
 | []=>[]
 |h::a=>bif cP h.2.1 j then .p (i≠h.1)::vo i j a else vo i j a
theorem AM{i j:Nat}: ∀{c:List (Nat×Nat×V)},dw (vo i j c)-> ∀v,(i,j,v)∉c
 | [],_,_,h=>by cases h
 |h::c,a,v,hm=>by
  unfold vo at a;cases d:cP h.2.1 j with
  |true=>
   rw[d] at a;rcases eN.1 hm with rfl|hm
   ·exact a.1 rfl
   exact AM a.2 v hm
  |false=>
   rw[d] at a;rcases eN.1 hm with rfl|hm
   ·simp at d
   exact AM a v hm
def LF(z:List (Nat×eC))(H:Nat->Option E)(t:bM)(v:V)(h:List dq):j0:=
 match eL z t,v,h with
 |some i,.c' id g_ o k a,.row r::h=>match H id with
  |some (.bn n m d e w)=>match i.u.agg with
   |false=>match r[a]?,vj a w with
    |some c,al=>match (ba n m).fc a with
     |none=>Y (.t c,[.q d g_,.q (ba n m).size o,.p (e[k]? =Y r)],h)
     |some _=>al
    |some _,Y (x,y)=>Y (y,[.q d g_,.q (ba n m).size o,.p (e[k]? =Y r),.q x k],h)
    |none,_=>al
   |true=>match eh (a+i.size) (U r),u0 w a i.size with
    |true,Y l=>Y (.agg (l.map (·.2)),.q d g_:: .q (ba n m).size o:: .p (e[k]? =Y r)::vb k l,h)
    |_,_=>al
  |_=>al
 |some i,.c' id g_ o k a,.int q:: .row r::h=>match H id with
  |some (.bn n m d e w)=>match i.u.agg,r[a]?,w[q.toNat]? with
   |false,Y _,Y (x,A,y)=>Y (y,[.q d g_,.q (ba n m).size o,.p (e[k]? =Y r),.q x k,.q A a],h)
   |true,_,_=>match eh (a+i.size) (U r),u0 (w.drop q.toNat) a i.size with
    |true,Y l=>Y (.agg (l.map (·.2)),.q d g_:: .q (ba n m).size o:: .p (e[k]? =Y r)::vb k l,h)
    |_,_=>al
   |_,_,_=>al
  |_=>al
 |some i,.c' id g_ o k a,.nat _:: .row r::h=>match H id with
  |some (.bn n m d e w)=>match i.u.agg,r[a]?,(ba n m).fc a with
   |false,Y c,al=>Y (.t c,.q d g_:: .q (ba n m).size o:: .p (e[k]? =Y r)::vo k a w,h)
   |_,_,_=>al
  |_=>al
 |_,_,_=>al
def Mp(e:List (Nat×eC))(t:bM)(k:Nat)(v:V)(h:List dq):j0:=
 match eL e t with
 |none=>al
 |some i=>match i.u with
  | .struct l=>match l[k]? with
   |none=>al
   |some a=>match eL e a.1 with
    |none=>al
    |some j=>match v with
     | .agg d=>match j.u.agg with
      |true=>match eh (a.2+j.size) (U d) with
       |true=>Y (.agg ((d.drop a.2).take j.size),[],h)
       |false=>al
      |false=>match d[a.2]? with
       |some c=>Y (c,[],h)
       |none=>al
     |_=>al
  |_=>al
def LH(m:List (Nat×eC))(H:Nat->Option E)(t:bM)(k:Nat)(v:V)(e:List dq):j0:=
 match eL m t with
 |none=>al
 |some i=>match i.u with
  | .struct o=>match o[k]? with
   |none=>al
   |some a=>match eL m a.1 with
    |none=>al
    |some j=>match cP j.size 0 with
     |true=>al
     |false=>match v with
      | .ref id d=>Y (.ref id (d+a.2),[],e)
      | .bc cs=>Y (.bc (cs.drop a.2),[],e)
      | .c' id g_ h n d=>match H id with
       |some (.arr _ c l _)=>Y (.c' id g_ h n (d+a.2),[.q c g_,.q l h],e)
       |some (.bn _ _ c _ _)=>Y (.c' id g_ h n (d+a.2),[.q c g_],e)
       |_=>al
      |_=>al
  |_=>al
def Mo(x:List (Nat×eC))(H:Nat->Option E)(t:bM)(v w:V)(h:List dq):j0:=
 match eL x t with
 |none=>al
 |some i=>match i.u with
  | .slice e=>match eL x e with
   |none=>al
   |some j=>match v,w with
    | .t (.bX l),.t (.int .i64 n)=>match h with
     | .row r::h=>match cP (U r) j.size with
      |true=>Y (.bc r,[.p (aC l n=Y r)],h)
      |false=>al
     |_=>al
    | .bE id g_ a d o,.t (.int .i64 n)=>match H id,cP a j.size with
     |some (.arr _ c y _),I=>Y (.c' id g_ a (d+n.toNat) 0,[.q c g_,.q y a,.p (0<=n/\n<(o:Int))],h)
     |some (.bn _ _ c _ _),I=>Y (.c' id g_ a (d+n.toNat) 0,[.q c g_,.p (0<=n/\n<(o:Int))],h)
     |_,_=>al
    |_,_=>al
  | .array m e=>match eL x e with
   |none=>al
   |some j=>match v,w,h with
    | .ref id d,.t (.int .i64 n),.nat k::h=>match eh (k+1) m with
     |true=>Y (.ref id (d+k*j.size),[.p (n=(k:Int))],h)
     |false=>al
    |_,_,_=>al
  |_=>al
def AX:Option eC->Bool
 |some i=>match i.u with
  | .string=>I
  |_=>ao
 |none=>ao
def Bc:Option eC->Bool
 |some i=>match i.u with
  | .slice _=>I
  |_=>ao
 |none=>ao
def Mw(d:List (Nat×eC))(e:nU)(t:bM)(v w:V)(c:List dq):j0:=
 match Bc (eL d t),v,w,e,c with
 |true,.t (.bX a),.t .hd,.eql,.b ao::c=>Y (.t (.bool ao),[.p (a≠[])],c)
 |_,_,_,_,_=>al
def LG(c:List (Nat×eC))(t:bM)(v w:V)(a:List dq):j0:=
 match AX (eL c t),v,w,a with
 |true,.t (.str l),.t (.int .i64 n),.y b::a=>Y (.t (.int .u8 (b.toNat:Nat)),[.p (aC l n=Y b)],a)
 |_,_,_,_=>al
def vk(d e:Option ct)(c:Nat)(h:List V):Option (Int×Int):=
 match d,e,h with
 |some _,Y _,[.t (.int .i64 a),.t (.int .i64 b)]=>Y (a,b)
 |some _,al,[.t (.int .i64 a)]=>Y (a,(c:Int))
 |none,Y _,[.t (.int .i64 b)]=>Y (0,b)
 |_,_,_=>al
def LD(w:List (Nat×eC))(H:Nat->Option E)(t:bM)(z A:Option ct)(x:List V)(h:List dq):j0:=
 match x with
 | .t (.str l)::y=>match AX (eL w t),vk z A (U l) y,h with
  |true,Y (a,b),.str r::h=>Y (.t (.str r),[.p (sub l a b=Y r)],h)
  |_,_,_=>al
 | .t (.bX d)::y=>match eL w t with
  |none=>al
  |some i=>match i.u with
   | .slice e=>match eL w e,vk z A (U d) y,h with
    |some j,Y (a,b),.rows r::h=>Y (.t (.bX r),[.p (sub d a b=Y r),.p (Rows j.size d)],h)
    |_,_,_=>al
   |_=>al
 | .bE id g_ c n k::y=>match eL w t,(H id).bind E.gen? with
  |some i,Y C=>match i.u with
   | .slice e=>match eL w e,vk z A k y,h with
    |some j,Y (a,b),.nat o:: .nat m::h=>Y (.bE id g_ c o m,[.q C g_,.q c j.size,.p (0<=a/\a<=b/\b<=k/\(a=0\/a<k)/\o=n+a.toNat/\m=b.toNat-a.toNat)],h)
    |some _,Y (a,b),.int 0::h=>Y (.t (.bX []),[.q C g_,.p (0<=a/\a=b/\b<=k)],h)
    |some j,Y (a,b),.int 1:: .nat o:: .nat m::h=>match H id with
     |some (.arr _ F B d)=>Y (.bE id g_ c o m,[.q F g_,.q B c,.q c j.size,.p (0<c/\0<=a/\a<b/\n+b<=U d/\o=n+a.toNat/\m=b.toNat-a.toNat)],h)
     |_=>al
    |_,_,_=>al
   |_=>al
  |_,_=>al
 |_=>al
def K1(k:List (Nat×eC))(H:Nat->Option E)(t:bM)(d:List V)(l:List dq):j0:=
 match d with
 | [.bE id g_ _ _ h,.t (.int .i64 a),.t (.int .i64 b),.t (.int .i64 c)]=>match eL k t,(H id).bind E.gen? with
  |some i,Y m=>match i.u with
   | .slice e=>match eL k e with
    |some _=>Y (.d',[.q m g_,.p (0<=a/\a<=b/\b<=c/\c<=h)],l)
    |none=>al
   |_=>al
  |_,_=>al
 |_=>al
def L'(k:List (Nat×eC))(t:bM)(d:List V)(h:List dq):j0:=
 match d,h with
 | [.t (.bX a),.t (.int .i64 b),.t (.int .i64 c)],.rows r::h=>match eL k t with
  |some i=>match i.u with
   | .slice e=>match eL k e with
    |some j=>Y (.t (.bX r),[.p (sub a 0 b=Y r/\c=b),.p (Rows j.size a)],h)
    |none=>al
   |_=>al
  |none=>al
 |_,_=>al
def Ml(i:List (Nat×eC))(H:Nat->Option E)(t:bM)(v:V)(c:List dq):j0:=
 match v,c with
 | .t (.str l),c=>match AX (eL i t) with
  |true=>Y (.t (.int .i64 (U l:Nat)),[],c)
  |false=>al
 | .t (.bX d),.nat n::c=>match Bc (eL i t) with
  |true=>Y (.t (.int .i64 (n:Nat)),[.p (U d=n)],c)
  |false=>al
 | .bE id g_ e _ h,.nat n::c=>match H id,Bc (eL i t) with
  |some (.arr _ a k _),I=>Y (.t (.int .i64 (n:Nat)),[.q a g_,.q k e,.p (h=n)],c)
  |some (.bn _ _ a _ _),I=>Y (.t (.int .i64 (n:Nat)),[.q a g_,.p (h=n)],c)
  |_,_=>al
 |_,_=>al
def J5(h:List (Nat×eC))(H:Nat->Option E)(b:Builtin)(c:List bM)(i:List ct)(a:List V)(d:List dq):j0:=
 match b,c,i,a with
 | .len,[t],[_],[v]=>Ml h H t v d
 | .max,_,[_,_],[.t (.int k m),.t (.int e n)]=>if k=e then Y (.t (.int k (max m n)),[],d) else al
 | .min,_,[_,_],[.t (.int k m),.t (.int e n)]=>if k=e then Y (.t (.int k (min m n)),[],d) else al
 |_,_,_,_=>al
def Mx(H:Nat->Option E)(v:V)(a:List dq):j0:=
 match v with
 | .c' id g_ _ _ _=>match (H id).bind E.gen? with
  |some c=>Y (v,[.q c g_],a)
  |none=>al
 | .ref _ _=>Y (v,[],a)
 | .bc _=>Y (v,[],a)
 | .fn _ _=>Y (v,[],a)
 |_=>al
def Ln(d:List (Nat×eC))(t:bM)(c:List Nat)(a:List V)(e:List dq):j0:=
 match eL d t with
 |none=>al
 |some i=>match i.u with
  | .struct _=>match (js i.z).val,cP (U c) (U a),nf (i.places[·]?) (js i.z).cs (c.zip a) with
   |true,I,Y cs=>Y (.agg cs,[],e)
   |_,_,_=>al
  |_=>al
def Bu(P:ee)(h:List (Nat×eC))(H:Nat->Option E)(l:Op)(a:List V)(e:List dq):j0:=
 match l with
 | .move _=>match a with
  | [v]=>Y (v,[],e)
  |_=>al
 | .assign _=>match a with
  | [v]=>Y (v,[],e)
  |_=>al
 | .pick _ _ _=>match a,e with
  | [.t (.bool b),v,w],.b c::e=>Y (bif c then v else w,[.p (b=c)],e)
  |_,_=>al
 | .load t _=>match a with
  | [v]=>match xI h H t v e with
   |some r=>Y r
   |none=>LF h H t v e
  |_=>al
 | .nilCheck _=>match a with
  | [v]=>Mx H v e
  |_=>al
 | .binOp o t x y _=>match a with
  | [v,w]=>match Mr P h o t v w e with
   |some r=>Y r
   |none=>match Mn h o t x y v w e with
    |some r=>Y r
    |none=>Mw h o t v w e
  |_=>al
 | .unOp o _ _=>match a with
  | [v]=>Mz o v e
  |_=>al
 | .convert s d _=>match a with
  | [v]=>L9 h s d v e
  |_=>al
 | .makeFunc m first _=>match m,first.toList with
  | .func f,[]=>Y (.fn f a,[],e)
  |_,_=>al
 | .slice t _ bD i o'=>match o' with
  |none=>LD h H t bD i a e
  |some _=>match bD,i with
   |some _,Y _=>K1 h H t a e
   |none,Y _=>L' h t a e
   |_,_=>al
 | .fieldAddr t _ k=>match a with
  | [v]=>LH h H t k v e
  |_=>al
 | .field t _ k=>match a with
  | [v]=>Mp h t k v e
  |_=>al
 | .indexAddr t _ _=>match a with
  | [v,w]=>Mo h H t v w e
  |_=>al
 | .index t _ _=>match a with
  | [v,w]=>LG h t v w e
  |_=>al
 | .extract _ k=>match a with
  | [.dB n]=>match n[k]? with
   |some v=>Y (v,[],e)
   |none=>al
  |_=>al
 | .build t q=>Ln h t (q.toList.map (·.1)) a e
 | .call c=>match c.callee with
  | .builtin b=>J5 h H b c.argTypes.toList c.args.toList a e
  |_=>al
 |_=>al
end
section
variable {P:ee}{df:List (Nat×eC)}{H:Nat->Option E}{d:Option Tmp}{ty:bM}{pos:String}{af:Array Edge}{g:Option (Nat×Bool)}
variable {t:bM}{u:gF}{z:bm}{s_ bytes:Nat}
theorem FT(a:nU)(e:U' a=I)(x y:ct)(t h:bM)(k:jT)(m n:Int):cZ P H ⟨d,.binOp a t x y h,ty,pos,af,g⟩ [.t (.int k m),.t (.int k n)] (.t (.int k (bits a k m n))):=by
 intro i w X l _ c;refine⟨Value.int k (bits a k m n),?_,.t _ _ (.int k _)⟩;cases a<;>simp[U'] at e<;>
  simp[cE,eQ c.1,eQ c.2.1,iF,iE,intBits_and,intBits_or,intBits_xor,intBits_andNot]
theorem aih(x y:ct)(t c:bM)(m n:List UInt8):cZ P H ⟨d,.binOp .lss t x y c,ty,pos,af,g⟩ [.t (.str m),.t (.str n)] (.t (.bool (Op.bytesLess m n))):=by intro e w X h _ a;refine⟨.bool (Op.bytesLess m n),?_,.t _ _ (.bool _)⟩;simp[cE,hB a.1,hB a.2.1,iF,iE,Op.stringOp]
theorem aij(x y:ct)(t c:bM)(m n:List UInt8):cZ P H ⟨d,.binOp .gtr t x y c,ty,pos,af,g⟩ [.t (.str m),.t (.str n)] (.t (.bool (!Op.bytesLess m n&& !m==n))):=by intro e w X h _ a;refine⟨.bool (!Op.bytesLess m n&& !m==n),?_,.t _ _ (.bool _)⟩;simp[cE,hB a.1,hB a.2.1,iF,iE,Op.stringOp]
theorem aii(x y:ct)(t c:bM)(m n:List UInt8):cZ P H ⟨d,.binOp .leq t x y c,ty,pos,af,g⟩ [.t (.str m),.t (.str n)] (.t (.bool (Op.bytesLess m n||m==n))):=by intro e w X h _ a;refine⟨.bool (Op.bytesLess m n||m==n),?_,.t _ _ (.bool _)⟩;simp[cE,hB a.1,hB a.2.1,iF,iE,Op.stringOp]
theorem X7(x:ct)(t:bM)(k:jT)(n:Int):cZ P H ⟨d,.unOp .neg t x,ty,pos,af,g⟩ [.t (.int k n)] (.t (.int k (k.wrap (0-n)))):=by intro c w X e _ a;refine⟨.int k (k.wrap (0-n)),?_,.t _ _ (.int _ _)⟩;simp[cE,eQ a.1,Op.unary,Op.intArith]
theorem ab8(x:ct)(f:fQ)(a:List V):cZ P H ⟨d,.nilCheck x,ty,pos,af,g⟩ [.fn f a] (.fn f a):=by intro h w X c _ i;have e:bI h w X (.fn f a) (c x):=i.1;refine⟨c x,?_,e⟩;generalize k:c x=y at e;cases e with|fn=>simp[cE,k]
variable {a v b:V}{x y:ct}{k m i c o:List dq}{n:Int}{e l r:List eM}{G:Map}{w:bY}{X:Nat->Prop}
theorem ags{a:nU}{t T:bM}{k:jT}{m:Int}(h:Mm a k m n i=Y (v,e,c))(l:dw e):
  cZ P H ⟨d,.binOp a t x y T,ty,pos,af,g⟩ [.t (.int k m),.t (.int k n)] v:=by
 cases a<;>simp only[Mm,Vz,Option.some.injEq,Prod.mk.injEq,reduceCtorEq] at h<;>obtain⟨rfl,rfl,rfl⟩:=h
 ·exact Yg _ _ _ _ _ _ _
 ·exact X2 _ _ _ _ _ _ _
 ·exact X8 _ _ _ _ _ _ _
 ·exact X4 _ _ _ _ _ _ _ l.1
 ·exact X3 _ _ _ _ _ _ _ l.1
 ·exact FT .and rfl _ _ _ _ _ _ _
 ·exact FT .or rfl _ _ _ _ _ _ _
 ·exact FT .xor rfl _ _ _ _ _ _ _
 ·exact FT .andNot rfl _ _ _ _ _ _ _
 ·exact Ye _ _ _ _ _ _ _
 ·exact X6 _ _ _ _ _ _ _
 ·exact Ya _ _ _ _ _ _ _
 ·exact Yb _ _ _ _ _ _ _
 ·exact Yc _ _ _ _ _ _ _
 exact Yd _ _ _ _ _ _ _
theorem agP{a:nU}{t T:bM}{m n:List UInt8}(h:Mv a m n i=Y (v,e,c))(k:dw e):
  cZ P H ⟨d,.binOp a t x y T,ty,pos,af,g⟩ [.t (.str m),.t (.str n)] v:=by
 unfold Mv at h;split at h<;>cases h
 ·obtain⟨l,rfl⟩:=agq k.1;exact Yf _ _ _ _ _ _ l
 ·exact ail _ _ _ _ _ _
 ·exact aif _ _ _ _ _ _
 ·exact aik _ _ _ _ _ _
 ·exact aih _ _ _ _ _ _
 ·exact aij _ _ _ _ _ _
 exact aii _ _ _ _ _ _
theorem RM(a:fm P df)(h:LW (eL df t)=I):P.underlying t=Y .bool:=by
 unfold LW at h;split at h
 ·rename_i i c;split at h
  ·rename_i e;exact(a _ _ c).kz.1 e
  cases h
 cases h
theorem Kl(a:fm P df)(h:AX (eL df t)=I):P.underlying t=Y .string:=by
 unfold AX at h;split at h
 ·rename_i i c;split at h
  ·rename_i e;exact(a _ _ c).kz.2.2.1 e
  cases h
 cases h
theorem Fh(a:fm P df)(h:Bc (eL df t)=I): ∃e,P.underlying t=Y (.slice e):=by
 unfold Bc at h;split at h
 ·rename_i i c;split at h
  ·rename_i e k;exact⟨e,(a _ _ c).kz.2.2.2 e k⟩
  cases h
 cases h
theorem xj{u:bm}(h:bI G w X (.t .hc) u):u= .nilIface:=by cases h with|t _ _ h=>cases h with|hc=>rfl
theorem TK{u:bm}(h:bI G w X (.t .err) u): ∃t v,u= .iface t v:=by cases h with|t _ _ h=>cases h with|err t v=>exact⟨t,v,rfl⟩
theorem ZA(w:bY)(n:Nat){ms}(a:bM)(b:bm)(c:P.underlying t=Y (.interface ms)):(Op.equalIn (n+1) t (.iface a b) .nilIface).run P w= .ok ao w:=by simp[Op.equalIn,eR c]
theorem Zy(w:bY)(n:Nat){ms}(a:P.underlying t=Y (.interface ms)):(Op.equalIn (n+1) t .nilIface .nilIface).run P w= .ok I w:=by simp[Op.equalIn,eR a]
theorem Sl(w:bY){ms}(a:bM)(b:bm)(c:P.underlying t=Y (.interface ms)):(Op.equal t (.iface a b) .nilIface).run P w= .ok ao w:=ZA w 9999 a b c
theorem Ry(w:bY){ms}(a:P.underlying t=Y (.interface ms)):(Op.equal t .nilIface .nilIface).run P w= .ok I w:=Zy w 9999 a
theorem adN(a b):iE .eql t (.iface a b) .nilIface=(do pure (.bool (<-Op.equal t (.iface a b) .nilIface))):=rfl
theorem adM(a b):iE .neq t (.iface a b) .nilIface=(do pure (.bool (!(<-Op.equal t (.iface a b) .nilIface)))):=rfl
theorem adL:iE .eql t .nilIface .nilIface=(do pure (.bool (<-Op.equal t .nilIface .nilIface))):=rfl
theorem aed:iE .neq t .nilIface .nilIface=(do pure (.bool (!(<-Op.equal t .nilIface .nilIface)))):=rfl
theorem Sm(w:bY)(o:nU)(x y:ct)(a:(rM x||rM y)=I):(iF o t x y .nilIface .nilIface).run P w= .ok () w:=by cases x<;>cases y<;>simp[rM] at a<;>simp[iF]<;>split<;>simp
theorem ai9(x y:ct)(e:bM){ms}(h:P.underlying t=Y (.interface ms)):cZ P H ⟨d,.binOp .eql t x y e,ty,pos,af,g⟩ [.t .err,.t .hc] (.t (.bool ao)):=by intro k w X l _ c;obtain⟨a,b,i⟩:=TK c.1;refine⟨.bool ao,?_,.t _ _ (.bool _)⟩;simp[cE,i,xj c.2.1,iF,adN,Sl w a b h]
theorem ai8(x y:ct)(e:bM){ms}(h:P.underlying t=Y (.interface ms)):cZ P H ⟨d,.binOp .neq t x y e,ty,pos,af,g⟩ [.t .err,.t .hc] (.t (.bool I)):=by intro k w X l _ c;obtain⟨a,b,i⟩:=TK c.1;refine⟨.bool I,?_,.t _ _ (.bool _)⟩;simp[cE,i,xj c.2.1,iF,adM,Sl w a b h]
theorem ai6(x y:ct)(c:bM){ms}(e:P.underlying t=Y (.interface ms))(h:(rM x||rM y)=I):cZ P H ⟨d,.binOp .eql t x y c,ty,pos,af,g⟩ [.t .hc,.t .hc] (.t (.bool I)):=by intro i w X k _ a;refine⟨.bool I,?_,.t _ _ (.bool _)⟩;simp[cE,xj a.1,xj a.2.1,Sm w _ x y h,adL,Ry w e]
theorem aim(x y:ct)(c:bM){ms}(e:P.underlying t=Y (.interface ms))(h:(rM x||rM y)=I):cZ P H ⟨d,.binOp .neq t x y c,ty,pos,af,g⟩ [.t .hc,.t .hc] (.t (.bool ao)):=by intro i w X k _ a;refine⟨.bool ao,?_,.t _ _ (.bool _)⟩;simp[cE,xj a.1,xj a.2.1,Sm w _ x y h,aed,Ry w e]
theorem Fi{a:List (Nat×eC)}(e:fm P a)(h:Mh (eL a t)=I): ∃ms,P.underlying t=Y (.interface ms):=by
 unfold Mh at h;split at h
 ·rename_i i k;split at h
  ·rename_i l;obtain⟨u,n,c⟩:=e _ _ k;simp only[eC.is,l] at c;obtain⟨m,rfl⟩:=c;exact⟨m,n.1⟩
  cases h
 cases h
theorem agt{e:List (Nat×eC)}(q:fm P e){i:nU}{T:bM}(h:Mn e i t x y a b k=Y (v,l,c)):
  cZ P H ⟨d,.binOp i t x y T,ty,pos,af,g⟩ [a,b] v:=by
 unfold Mn at h;split at h
 ·rename_i m o;obtain⟨ms,n⟩:=Fi q m;cases h;exact ai9 _ _ _ n
 ·rename_i m o;obtain⟨ms,n⟩:=Fi q m;cases h;exact ai8 _ _ _ n
 ·rename_i m o;obtain⟨ms,n⟩:=Fi q m;cases h;exact ai6 _ _ _ n o
 ·rename_i m o;obtain⟨ms,n⟩:=Fi q m;cases h;exact aim _ _ _ n o
 cases h
theorem Z8(w:bY)(n:Nat){e}(a:Addr)(l c:Nat)(h:P.underlying t=Y (.slice e)):(Op.equalIn (n+1) t (.slice (Y a) l c) (.slice al 0 0)).run P w= .ok ao w:=by simp[Op.equalIn,eR h]
theorem agC(w:bY){e}(a:Addr)(l c:Nat)(h:P.underlying t=Y (.slice e)):(Op.equal t (.slice (Y a) l c) (.slice al 0 0)).run P w= .ok ao w:=Z8 w 9999 a l c h
theorem ahi(a:Addr)(l c:Nat):iE .eql t (.slice (Y a) l c) (.slice al 0 0)=(do pure (.bool (<-Op.equal t (.slice (Y a) l c) (.slice al 0 0)))):=rfl
theorem ag3(x y:ct)(n:bM)(i:List (List T)){e}(o:P.underlying t=Y (.slice e))(q:i≠[]):cZ P H ⟨d,.binOp .eql t x y n,ty,pos,af,g⟩ [.t (.bX i),.t .hd] (.t (.bool ao)):=by
 intro G w X k _ m;obtain⟨a,l,c,r⟩: ∃a l c,k x= .slice (Y a) l c:=by
  cases m.1 with|t _ _ h=>
  generalize A:k x=u at h;cases h with
  |iq=>exact bu rfl q
  |bX _ b B s_ C f=>exact⟨_,_,_,rfl⟩
 have F:k y= .slice al 0 0:=by
  cases m.2.1 with|t _ _ h=>
  generalize A:k y=u at h;cases h;rfl
 refine⟨.bool ao,?_,.t _ _ (.bool _)⟩;simp[cE,r,F,iF,ahi,agC w a l c o]
theorem agQ{i:List (Nat×eC)}(o:fm P i){k:nU}{T:bM}(h:Mw i k t a b m=Y (v,l,c))(n:dw l):
  cZ P H ⟨d,.binOp k t x y T,ty,pos,af,g⟩ [a,b] v:=by
 unfold Mw at h;split at h
 ·rename_i q;obtain⟨e,r⟩:=Fh o q;cases h;exact ag3 _ _ _ _ r n.1
 cases h
theorem aca(x y:ct)(e n c a k:Nat){u:gF}{z:bm}{i L:Nat}(l:P.underlying t=Y (.array n e))(m:db P e u z i L)(r:k<n):
  cZ P H ⟨d,.indexAddr t x y,ty,pos,af,g⟩ [.ref c a,.t (.int .i64 (k:Int))] (.ref c (a+k*i)):=by
 intro A w X B C h;have dc:=eQ h.2.1;obtain⟨b,o,q⟩:=uT h.1;refine⟨.pointer (Y ⟨b,a+k*i,al⟩),?_,.ref _ _ _ o⟩;simp[cE,q,dc,Instr.indexAt,zO,eR l,m.run_sizeOf,l2,Instr.sureAddr]
 grind
theorem agz(B:fm P df){k:nU}{t T:bM}(h:Mr P df k t a b c=Y (v,e,i))(l:dw e):
  cZ P H ⟨d,.binOp k t x y T,ty,pos,af,g⟩ [a,b] v:=by
 unfold Mr at h;split at h
 ·split at h
  ·rename_i C;subst C;exact ags h l
  cases h
 ·exact agP h l
 ·split at h
  ·rename_i m;cases h;exact aja _ _ _ _ _ (RM B m)
  ·rename_i m;cases h;exact ai' _ _ _ _ _ (RM B m)
  cases h
 ·split at h
  ·rename_i ms n b c o q;cases h;obtain⟨r,w,A,_⟩:=l;rw[zU o,zU q,<-A];exact aeS _ _ _ _ ms n r aZ (by simp[w])
  ·rename_i ms n b c o q;cases h;obtain⟨r,w,A,_⟩:=l;rw[zU o,zU q,<-A];exact afg _ _ _ _ ms n r aZ (by simp[w])
  cases h
 cases h
theorem ahM{e:UnOp}(h:Mz e a i=Y (v,l,c)):
  cZ P H ⟨d,.unOp e t x,ty,pos,af,g⟩ [a] v:=by
 unfold Mz at h;split at h<;>cases h
 ·exact X5 _ _ _
 exact X7 _ _ _ _
theorem acj(k:fm P df){i:eC}(l:eL df t=Y i)(h:KC df (Y i)=I): ∃e,P.underlying t=Y (.slice e)/\P.underlying e=Y (.int .u8):=by
 unfold KC at h;split at h
 ·rename_i o a;cases a;split at h
  ·rename_i e m;split at h
   ·rename_i j n;split at h
    ·rename_i c;exact⟨e,(k _ _ l).kz.2.2.2 e m,(k _ _ n).kz.2.1 _ c⟩
    cases h
   cases h
  cases h
 cases h
theorem ae2(A:fm P df){T c:bM}{q:List dq}(h:L9 df T c a o=Y (v,r,q))(w:dw r):
  cZ P H ⟨d,.convert T c x,ty,pos,af,g⟩ [a] v:=by
 unfold L9 at h;split at h
 ·rename_i i j G K;split at h
  ·rename_i Q k n m o B;cases h;obtain⟨L,y,_⟩:=A _ _ G;have C:Q.wrap n=m:=w.1;rw[<-C];exact UP _ _ _ _ _ L _ y.1 ((A _ _ K).kz.2.1 _ B)
  ·rename_i k n m o B;cases h;have C:UInt8.ofInt n=m:=w.1;rw[<-C];obtain⟨L,y,_⟩:=A _ _ G
   have:=UP (P:=P) (H:=H) (d:=d) (ty:=ty) (pos:=pos) (af:=af) (g:=g) x T c k .u8 L n y.1 ((A _ _ K).kz.2.1 _ B);rw[Uc] at this;exact this
  ·rename_i F l o B;split at h
   ·rename_i R;cases h;have C:F=l.map oE:=w.1;obtain⟨e,W,X⟩:=acj A G R;rw[C];exact acd _ _ _ _ _ W X ((A _ _ K).kz.2.2.1 B)
   cases h
  cases h
 cases h
theorem abd(x:ct)(y g_ i a:Nat)(A:bM)(sz:Nat)(k:List (List T))(e:List T)(W:db P t u z s_ bytes)(f:mF u=I)(K:H y=Y (.arr A g_ sz k))(o:k[i]? =Y e)(ch:a+s_<=U e):
  cZ P H ⟨d,.load t x,ty,pos,af,g⟩ [.c' y g_ sz i a] (.agg (((e.drop a).take s_).map .t)):=by
 intro β w X ρ L p;obtain⟨q,Q⟩:=nH (L y _ K);obtain⟨b,B,s⟩:=r0 p.1 Q;subst B;have br:=Q;rcases(L y _ K).2 with ⟨C,F⟩|⟨iG,G,C,F,h3,M,N⟩
 ·rw[F] at o;simp at o
 rw[br] at C;cases C;have S:i<U k:=(cI.1 o).1;have V:U e=sz:=M e (ca o);have r: ∀j,j<s_->i*sz+a+j<G.size:=by
  intro j n
  have:(i+1)*sz<=U k*sz:=fj _ S;rw[ft] at this;omega
 have l: ∀j,j<s_->w.cell? ⟨b,i*sz+a+j,al⟩=Y (G.getD (i*sz+a+j) undef):=λj n=>by
  have:=r j n;simp[World.cell?,F,this]
 refine⟨_,by simp[cE,s,Instr.loadAt,Instr.sureAddr,W.HM w f l];rfl,?_⟩;refine .agg _ _ bV λj c v h R=>?_;have n:j<s_:=by
  have:=(cI.1 h).1;simp at this;omega
 rw[fG,List.getElem?_take_of_lt n,iS] at h;simp only[List.getElem?_toArray,List.getElem?_map,List.getElem?_range n,ln,Option.some.injEq] at R;cases m:e[a+j]? with
 |none=>rw[m] at h;simp at h
 |some iU=>
  rw[m] at h;simp at h;rw[<-h]
  have:=r j n;have h6:=N i (a+j) e iU G[i*sz+a+j] o m (by rw[<-sg];simp[this]);rw[<-R];simp only[Array.getElem?_eq_getElem this,Option.getD_some];exact .t _ _ h6
theorem Sk(Q:fm P df)(h:xI df H t a m=Y (v,e,o))(A:dw e):
  cZ P H ⟨d,.load t x,ty,pos,af,g⟩ [a] v:=by
 unfold xI at h;split at h
 ·cases h
 rename_i i R;obtain⟨W,w,l⟩:=(Q _ _ R).agg;split at h
 ·rename_i id F;split at h
  ·rename_i cs y;split at h
   ·rename_i n;split at h
    ·rename_i q;cases h;exact ag4 _ _ _ _ w (l.trans n) y q
    cases h
   rename_i n;split at h
   ·rename_i c G;cases h;exact ag5 _ _ _ _ _ w (l.trans n) y G
   cases h
  cases h
 ·rename_i cs;split at h
  ·rename_i n;split at h
   ·rename_i q;cases h;exact adw _ _ w (l.trans n) (fJ q)
   cases h
  rename_i n;split at h
  ·cases h;exact adx _ _ _ w (l.trans n)
  cases h
 ·rename_i id g_ X k F;split at h
  ·rename_i B K C r m y n;split at h
   ·rename_i c G;cases h;obtain⟨rfl,rfl,L,_⟩:=A;exact abe _ _ _ _ _ _ _ _ _ _ w (l.trans n) y L G
   cases h
  ·rename_i B K C r m y n;split at h
   ·rename_i q;cases h;obtain⟨rfl,rfl,L,_⟩:=A;exact abd _ _ _ _ _ _ _ _ _ w (l.trans n) y L (fJ q)
   cases h
  cases h
 cases h
theorem Rx{j:Nat}: ∀{c:List (Nat×Nat×V)},vj j c=al-> ∀i v,(i,j,v)∉c
 | [],_,_,_,h=>by cases h
 |h::c,a,i,v,hm=>by
  simp only[vj] at a;cases e:cP h.2.1 j with
  |true=>rw[e] at a;cases a
  |false=>
   rw[e] at a;rcases eN.1 hm with rfl|hm
   ·simp at e
   exact Rx a i v hm
theorem JG{j:Nat}{x:Nat×V}: ∀{c:List (Nat×Nat×V)},vj j c=Y x->(x.1,j,x.2)∈c
 |h::c,a=>by
  simp only[vj] at a;cases e:cP h.2.1 j with
  |true=>
   rw[e] at a;cases a
   have:=eg e;subst this;exact fi
  |false=>rw[e] at a;exact eT _ (JG a)
theorem z7{c:List (Nat×Nat×V)}{k:Nat}: ∀{n j:Nat} {l:List (Nat×V)},u0 c j n=Y l->dw (vb k l)->U l=n/\ ∀i v,(l.map (·.2))[i]? =Y v->(k,j+i,v)∈c
 |0,_,_,h,_=>by cases h;exact⟨rfl,λi v h=>by simp at h⟩
 |n+1,j,l,h,a=>by
  simp only[u0] at h;split at h
  ·rename_i x r o q;cases h;simp only[vb] at a;obtain⟨e,a⟩:=a;obtain⟨aW,a2⟩:=z7 q a;refine⟨by simp[aW],λi v m=>?_⟩;cases i with
   |zero=>
    simp at m;subst m
    have:=JG o;rw[e] at this;exact this
   |succ i=>
    have:=a2 i v (by simpa using m)
    rwa [show j+1+i=j+(i+1) by omega] at this
  cases h
theorem aeh(f:fm P df){b p:List dq}{T:List eM}(h:LF df H t a b=Y (v,T,p))(o:dw T):
  cZ P H ⟨d,.load t x,ty,pos,af,g⟩ [a] v:=by
 unfold LF at h;split at h
 ·rename_i i id g_ sz k R r b W;obtain⟨C8,B,n⟩:=(f _ _ W).agg;split at h
  ·rename_i C m F e X G;split at h
   ·rename_i A;split at h
    ·rename_i c K L;split at h
     ·rename_i s;cases h;obtain⟨rfl,w,y,_⟩:=o;exact Iq _ _ _ _ _ C m _ e X r c _ B (n.trans A) G w y K (.inr ⟨λv=>Rx L _ _,s,rfl⟩)
     cases h
    ·rename_i c ju fr K L;cases h;obtain⟨rfl,w,y,rfl,_⟩:=o;exact Iq _ _ _ _ _ C m _ e _ r c _ B (n.trans A) G w y K (.inl (JG L))
    cases h
   rename_i A;split at h
   ·rename_i l M L;cases h;obtain⟨rfl,w,y,Q⟩:=o;obtain⟨N,S⟩:=z7 L Q;exact P0 _ _ _ _ _ C m _ e X r _ B (n.trans A) G w y (fJ M) (by simp[N]) S
   cases h
  cases h
 ·rename_i i id g_ sz k R q r b W;obtain⟨C8,B,n⟩:=(f _ _ W).agg;split at h
  ·rename_i C m F e X G;split at h
   ·rename_i c ju fx fr A K Q;cases h;obtain⟨rfl,w,y,rfl,rfl,_⟩:=o;exact Iq _ _ _ _ _ C m _ e _ r c _ B (n.trans A) G w y K (.inl (ca Q))
   ·rename_i A;split at h
    ·rename_i l M L;cases h;obtain⟨rfl,w,y,Q⟩:=o;obtain⟨N,S⟩:=z7 L Q;exact P0 _ _ _ _ _ C m _ e X r _ B (n.trans A) G w y (fJ M) (by simp[N]) λj v b0=>hl (S j v b0)
    cases h
   cases h
  cases h
 ·rename_i i id g_ sz k R q r b W;obtain⟨C8,B,n⟩:=(f _ _ W).agg;split at h
  ·rename_i C m F e X G;split at h
   ·rename_i c A K s;cases h;obtain⟨rfl,w,y,Q⟩:=o;exact Iq _ _ _ _ _ C m _ e _ r c _ B (n.trans A) G w y K (.inr ⟨AM Q,s,rfl⟩)
   cases h
  cases h
 cases h
theorem aej(G:fm P df){k:Nat}(h:LH df H t k a m=Y (v,l,c))(w:dw l):
  cZ P H ⟨d,.fieldAddr t x k,ty,pos,af,g⟩ [a] v:=by
 unfold LH at h;split at h
 ·cases h
 rename_i i Q;split at h
 ·rename_i b R;obtain⟨y,B,C,_⟩:=(G _ _ Q).st R;have A:P.underlying t=Y (.struct y):=B.1;split at h
  ·cases h
  rename_i K n;rw[<-C,fG] at n;cases r:y[k]? with
  |none=>rw[wT,r] at n;cases n
  |some W=>
  rw[wT,r] at n;simp only[ln,Option.some.injEq] at n;subst n;split at h
  ·cases h
  rename_i j X;obtain⟨f,o,_⟩:=G _ _ X;split at h
  ·cases h
  rename_i L;have q:(j.size==0)=ao:=by
   rw[beq_eq_false_iff_ne];intro e;rw[e] at L;cases L
  split at h
  ·cases h;exact acb _ _ _ _ _ _ _ _ _ _ _ A r rfl o q
  ·cases h;exact adA _ _ _ _ _ _ _ _ _ _ A r rfl o q
  ·split at h
   ·rename_i F;cases h;obtain⟨rfl,rfl,_⟩:=w;exact abg _ _ _ _ _ _ _ _ _ _ _ _ _ _ A r rfl o q _ _ F
   ·rename_i F;cases h;obtain⟨rfl,_⟩:=w;exact abh _ _ _ _ _ _ _ _ _ _ _ _ _ _ A r rfl o q _ F rfl
   cases h
  cases h
 cases h
theorem agw(B:fm P df){k:Nat}(h:Mp df t k a m=Y (v,e,c)):
  cZ P H ⟨d,.field t x k,ty,pos,af,g⟩ [a] v:=by
 unfold Mp at h;split at h
 ·cases h
 rename_i i F;split at h
 ·rename_i W G;obtain⟨w,n,y,_⟩:=(B _ _ F).st G;split at h
  ·cases h
  rename_i C l;rw[<-y,fG] at l;cases r:w[k]? with
  |none=>rw[wT,r] at l;cases l
  |some K=>
  rw[wT,r] at l;simp only[ln,Option.some.injEq] at l;subst l;split at h
  ·cases h
  rename_i j L;obtain⟨X,o,q⟩:=(B _ _ L).agg;split at h
  ·split at h
   ·rename_i A;split at h
    ·rename_i Q;cases h;exact SR _ _ _ _ _ _ n r o (.inl ⟨q.trans A,Q,rfl⟩)
    cases h
   rename_i A;split at h
   ·rename_i R;cases h;exact SR _ _ _ _ _ _ n r o (.inr ⟨q.trans A,R⟩)
   cases h
  cases h
 cases h
theorem om(h:0<=n):n=((n.toNat:Nat):Int):=O
theorem agu(F:fm P df){G K:List dq}{s:List eM}(h:Mo df H t a b G=Y (v,s,K))(l:dw s):
  cZ P H ⟨d,.indexAddr t x y,ty,pos,af,g⟩ [a,b] v:=by
 unfold Mo at h;split at h
 ·cases h
 rename_i i M;split at h
 ·rename_i e L;have A:P.underlying t=Y (.slice e):=(F _ _ M).kz.2.2.2 e L;split at h
  ·cases h
  rename_i j Q;obtain⟨N,B,_⟩:=F _ _ Q;split at h
  ·rename_i c n;split at h
   ·rename_i r G;split at h
    ·rename_i q;cases h;obtain⟨R,W⟩:=pc (show aC c n=Y r from l.1);rw[om R];exact adz _ _ _ _ _ _ A B W (eg q)
    cases h
   cases h
  ·rename_i id g_ s_ w len n;split at h
   ·rename_i o S c X q;cases h;obtain⟨rfl,rfl,⟨R,W⟩,_⟩:=l;have f:n.toNat<len:=O
    have:=eg q;subst this;have T:=ab' (P:=P) (H:=H) (d:=d) (ty:=ty) (pos:=pos) (af:=af) (g:=g) x y e id o w len n.toNat _ _ X A B f
    grind
   ·rename_i m o c WB X q;cases h;obtain⟨rfl,⟨R,W⟩,_⟩:=l;have f:n.toNat<len:=O
    have:=eg q;subst this;have T:=abf (P:=P) (H:=H) (d:=d) (ty:=ty) (pos:=pos) (af:=af) (g:=g) x y e id _ w len n.toNat _ X rfl A B f
    grind
   cases h
  cases h
 ·rename_i m e L;obtain⟨zt,p,C⟩:=F _ _ M;have A:P.underlying t=Y (.array m e):=by
   simp only[eC.is,L] at C;rw[<-C];exact p.1
  split at h
  ·cases h
  rename_i j Q;obtain⟨N,B,_⟩:=F _ _ Q;split at h
  ·rename_i id w n k G;split at h
   ·rename_i q;cases h;rw[show n=(k:Int) from l.1];exact aca _ _ _ _ _ _ _ A B (fJ q)
   cases h
  cases h
 cases h
theorem aei(o:fm P df)(h:LG df t a b k=Y (v,e,i))(m:dw e):
  cZ P H ⟨d,.index t x y,ty,pos,af,g⟩ [a,b] v:=by
 unfold LG at h;split at h
 ·rename_i l n c k q;cases h;obtain⟨r,w⟩:=pc (show aC l n=Y c from m.1);rw[om r];exact aff _ _ _ _ _ (Kl o q) w
 cases h
theorem agr(o:fm P df)(h:Ml df H t a i=Y (v,l,c))(k:dw l):
  cZ P H ⟨d,.call {callee:= .builtin .len,args:= #[x],argTypes:= #[t]},ty,pos,af,g⟩ [a] v:=by
 unfold Ml at h;split at h
 ·split at h
  ·rename_i m;cases h;exact aez _ _ (Kl o m)
  cases h
 ·split at h
  ·rename_i m;cases h;obtain⟨e,n⟩:=Fh o m;have r:=k.1;rw[<-r];exact afh _ _ _ n
  cases h
 ·split at h
  ·rename_i q m;cases h;obtain⟨rfl,rfl,rfl,_⟩:=k;obtain⟨e,n⟩:=Fh o m;exact aeA _ _ _ _ _ _ _ n _ _ q
  ·rename_i q m;cases h;obtain⟨rfl,rfl,_⟩:=k;obtain⟨e,n⟩:=Fh o m;exact ady _ _ _ _ _ _ _ n _ q rfl
  cases h
 cases h
theorem aeg(Q:fm P df){B C:Option ct}{F:List V}{M rG:List dq}{ni:List eM}(h:LD df H t B C F M=Y (v,ni,rG))(n:dw ni):
  cZ P H ⟨d,.slice t x B C al,ty,pos,af,g⟩ F v:=by
 unfold LD at h;split at h
 ·rename_i l S;split at h
  ·rename_i a b r M yB c;cases h;obtain⟨k,h2,T,rfl⟩:=EN n.1;have q:=Kl Q yB;unfold vk at c;split at c
   ·cases c;rw[om k,om (O:0<=b)];exact ab6 _ _ _ _ _ _ q O O
   ·cases c
    have:=Zw (P:=P) (H:=H) (d:=d) (ty:=ty) (pos:=pos) (af:=af) (g:=g) x ‹_› l a.toNat q O;rw[<-om k] at this;simpa using this
   ·cases c
    have:=ZO (P:=P) (H:=H) (d:=d) (ty:=ty) (pos:=pos) (af:=af) (g:=g) x ‹_› l b.toNat q O
    grind
   cases c
  cases h
 ·rename_i G S;split at h
  ·cases h
  rename_i i R;split at h
  ·rename_i e hu;have q:P.underlying t=Y (.slice e):=(Q _ _ R).kz.2.2.2 e hu;split at h
   ·rename_i j a b r M W c;cases h;obtain⟨N,K,_⟩:=n;obtain⟨k,h2,T,rfl⟩:=EN N;obtain⟨rP,A,_⟩:=Q _ _ W;unfold vk at c;split at c
    ·cases c;rw[om k,om (O:0<=b)];exact adt _ _ _ _ _ _ _ q A O O K
    ·cases c
     have:=ZE (P:=P) (H:=H) (d:=d) (ty:=ty) (pos:=pos) (af:=af) (g:=g) x ‹_› e G a.toNat q A O K;rw[<-om k] at this;simpa using this
    ·cases c
     have:=aaw (P:=P) (H:=H) (d:=d) (ty:=ty) (pos:=pos) (af:=af) (g:=g) x ‹_› e G b.toNat q A O K
     grind
    cases c
   cases h
  cases h
 ·rename_i id ao0 sz f y S;split at h
  ·rename_i i iM R b9;split at h
   ·rename_i e hu;have q:P.underlying t=Y (.slice e):=(Q _ _ R).kz.2.2.2 e hu;obtain⟨GC,hH,b9⟩:=Option.bind_eq_some_iff.1 b9;have p: ∀{a b:Int},vk B C y S=Y (a,b)->0<=a->0<=b-> ∀β w X (L:ct->bm),eG β w X S (B.toList.map L++C.toList.map L)->sY y B C L a.toNat b.toNat:=by
     intro a b c N k β w X L K;unfold vk at c;split at c
     ·cases c;refine⟨?_,?_⟩
      ·show L _=_;rw[Ig N];exact eQ K.1
      show L _=_;rw[Ig k];exact eQ K.2.1
     ·cases c;refine⟨?_,by show _=_;simp⟩;show L _=_;rw[Ig N];exact eQ K.1
     ·cases c;refine⟨by show _=_;simp,?_⟩;show L _=_;rw[Ig k];exact eQ K.1
     cases c
    split at h
    ·rename_i j a b o m M W c;cases h;obtain⟨rfl,rfl,⟨k,h2,T,h4,rfl,rfl⟩,_⟩:=n;obtain⟨rP,A,_⟩:=Q _ _ W;exact aie x B C e id _ f y a.toNat b.toNat GC hH b9 q A O O O (p c k O)
    ·rename_i j a b M W c;cases h;obtain⟨rfl,⟨k,rfl,T⟩,_⟩:=n;obtain⟨rP,A,_⟩:=Q _ _ W;exact ag2 x B C e id _ _ f y a.toNat GC hH b9 q A O (p c k k)
    ·rename_i j a b o m M W c;split at h
     ·rename_i s;cases h;obtain⟨rfl,rfl,rfl,⟨N,k,h2,T,rfl,rfl⟩,_⟩:=n;obtain⟨rP,A,_⟩:=Q _ _ W;exact ahq x B C e _ id _ f y a.toNat b.toNat _ s q A N O O (p c k O)
     cases h
    cases h
   cases h
  cases h
 cases h
theorem acg(F:fm P df){l n:ct}{k:List V}(h:K1 df H t k o=Y (v,r,m))(q:dw r):
  cZ P H ⟨d,.slice t x (Y y) (Y l) (Y n),ty,pos,af,g⟩ k v:=by
 unfold K1 at h;split at h
 ·rename_i id f p w A a b c;split at h
  ·rename_i i s B C;split at h
   ·rename_i e G;have K:P.underlying t=Y (.slice e):=(F _ _ B).kz.2.2.2 e G;obtain⟨L,Q,C⟩:=Option.bind_eq_some_iff.1 C;split at h
    ·rename_i j R;cases h;obtain⟨rfl,⟨W,M,N,S⟩,_⟩:=q;obtain⟨T,X,_⟩:=F _ _ R;rw[om W,om (O:0<=b),om (O:0<=c)];exact afe x y l n e id _ _ w A a.toNat b.toNat c.toNat L Q C K X O O O
    cases h
   cases h
  cases h
 cases h
theorem ae3(o:fm P df){l:ct}{a:List V}(h:L' df t a k=Y (v,r,c))(m:dw r):
  cZ P H ⟨d,.slice t x al (Y y) (Y l),ty,pos,af,g⟩ a v:=by
 unfold L' at h;split at h
 ·split at h
  ·rename_i i n;split at h
   ·rename_i e q;have w:P.underlying t=Y (.slice e):=(o _ _ n).kz.2.2.2 e q;split at h
    ·rename_i j A;cases h;obtain⟨⟨B,rfl⟩,C,_⟩:=m;obtain⟨K,L,F,rfl⟩:=EN B;obtain⟨Q,G,_⟩:=o _ _ A
     have:=abp (P:=P) (H:=H) (d:=d) (ty:=ty) (pos:=pos) (af:=af) (g:=g) x y l e _ _ w G (Int.toNat_le.2 F) C
     grind
    cases h
   cases h
  cases h
 cases h
theorem abv(o:fm P df){b:Builtin}{c:List bM}{e:List ct}{a:List V}(h:J5 df H b c e a k=Y (v,l,i))(m:dw l):
  cZ P H ⟨d,.call {callee:= .builtin b,args:=e.toArray,argTypes:=c.toArray},ty,pos,af,g⟩ a v:=by
 unfold J5 at h;split at h
 ·exact agr o h m
 ·split at h
  ·rename_i n;subst n;cases h;exact X' _ _ _ _ _ _
  cases h
 ·split at h
  ·rename_i n;subst n;cases h;exact X9 _ _ _ _ _ _
  cases h
 cases h
theorem agR(h:Mx H a i=Y (v,e,c))(k:dw e):cZ P H ⟨d,.nilCheck x,ty,pos,af,g⟩ [a] v:=by
 unfold Mx at h;split at h
 ·split at h
  ·rename_i o l;cases h;obtain⟨rfl,_⟩:=k;obtain⟨m,n,l⟩:=Option.bind_eq_some_iff.1 l;exact ab9 _ _ _ _ _ _ m n l
  cases h
 ·cases h;exact QJ _ _ rfl
 ·cases h;exact QJ _ _ rfl
 ·cases h;exact ab8 _ _ _
 cases h
theorem ael(q:fm P df){c:Array (Nat×ct)}{a:List V}(h:Ln df t (c.toList.map (·.1)) a m=Y (v,e,k)):
  cZ P H ⟨d,.build t c,ty,pos,af,g⟩ a v:=by
 unfold Ln at h;split at h
 ·cases h
 rename_i i r;split at h
 ·rename_i B w;split at h
  ·rename_i cs x y A;cases h;obtain⟨l,n,_,o⟩:=(q _ _ r).st w;exact ag6 c l i.places a cs n o x (by simpa using y) A
  cases h
 cases h
theorem ai5(n:fm P df){e:Op}{a:List V}(h:Bu P df H e a k=Y (v,l,i))(m:dw l):
  cZ P H ⟨d,e,ty,pos,af,g⟩ a v:=by
 unfold Bu at h;split at h
 ·split at h
  ·cases h;exact ai7 _ _
  cases h
 ·split at h
  ·cases h;exact aeT _ _
  cases h
 ·split at h
  ·rename_i b v w c k;cases h;obtain⟨y,_⟩:=m;subst y;cases b
   ·exact abq _ _ _ _ _
   exact ab7 _ _ _ _ _
  cases h
 ·split at h
  ·split at h
   ·rename_i A;cases h;exact Sk n A m
   exact aeh n h m
  cases h
 ·split at h
  ·exact agR h m
  cases h
 ·split at h
  ·split at h
   ·rename_i r q;cases h;exact agz n q m
   split at h
   ·rename_i r q;cases h;exact agt n q
   exact agQ n h m
  cases h
 ·split at h
  ·exact ahM h
  cases h
 ·split at h
  ·exact ae2 n h m
  cases h
 ·rename_i G first x
  split at h
  ·rename_i f B;cases h
   have:first= #[]:=by simpa using B
   subst this;exact adv _ _ _
  cases h
 ·split at h
  ·exact aeg n h m
  split at h
  ·exact acg n h m
  ·exact ae3 n h m
  cases h
 ·split at h
  ·exact aej n h m
  cases h
 ·split at h
  ·exact agw n h
  cases h
 ·split at h
  ·exact agu n h m
  cases h
 ·split at h
  ·exact aei n h m
  cases h
 ·split at h
  ·split at h
   ·rename_i C;cases h;exact aeB _ _ _ _ C
   cases h
  cases h
 ·exact ael n h
 ·rename_i c;obtain⟨o,args,F⟩:=c;dsimp only at h;split at h
  ·have:=abv (d:=d) (ty:=ty) (pos:=pos) (af:=af) (g:=g) n h m;simpa using this
  cases h
 cases h
end
end Go.Lift
