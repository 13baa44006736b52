/- What a call owns may be read by a callee that owns nothing of it: if the callee hands out plain rows, the caller keeps what it lent. -/
import Derived.Test.YtlbojjldejlgaaaGreatTLiftX
namespace Go.Lift
open Go
def flatT:T→Bool
 | .sl _=>false
 |_=>true
theorem RT.flat{w w':World}{X X':Nat→Prop}{x:T}{v:Value}(h:RT w X x v)(hf:flatT x=true):RT w' X' x v:=by
 cases h with
 |bool b=>exact .bool b
 |int k n=>exact .int k n
 |str l=>exact .str l
 |sl0 _ _=>cases hf
 |sl rows b off size cap f hb hX hcap hsz hc hr=>cases hf
 |nilS=>exact .nilS
 |nilP=>exact .nilP
 |nilI=>exact .nilI
 |nilF=>exact .nilF
 |err t v=>exact .err t v
mutual
def aAV:V→Bool
 | .t x=>flatT x
 | .agg cs=>uH cs
 | .tup cs=>uH cs
 | .msl _ _ _ _ _=>true
 | .junk=>true
 |_=>false
def uH:List V→Bool
 | []=>true
 |c::cs=>aAV c&&uH cs
end
theorem sY: ∀{cs:List V} {i:Nat} {c:V},uH cs=true→cs[i]? =some c→aAV c=true
 | [],_,_,_,h=>by simp at h
 |c::cs,0,_,hf,h=>by simp [uH] at hf;simp at h;subst h;exact hf.1
 |c::cs,i+1,_,hf,h=>by simp [uH] at hf;exact sY hf.2 (by simpa using h)
theorem RV.flat{β:Map}{w:World}{X X':Nat→Prop}{v:V}{u:Value}(h:RV β w X v u)(hf:aAV v=true):RV β w X' v u:=by
 induction h with
 |t x v h=>exact .t x v (h.flat hf)
 |agg cs us hl _ ih=>exact .agg cs us hl (fun i c u hc hu=>ih i c u hc hu (sY hf hc))
 |tup cs us hl _ ih=>exact .tup cs us hl (fun i c u hc hu=>ih i c u hc hu (sY hf hc))
 |ref id off b hb=>cases hf
 |tp cells b off f hb hX hc hr=>cases hf
 |msl id gen size off len cap b n ty hg hb hw hs hn hl hm=>exact .msl id gen size off len cap b n ty hg hb hw hs hn hl hm
 |msl0 id gen size hg hb=>exact .msl0 id gen size hg hb
 |mslOld id gen size off len v q g ho hb hg=>exact .mslOld id gen size off len v q g ho hb hg
 |eref id gen size i off b hg hb=>cases hf
 |erefOld id gen size i off v q g ho hb hg=>cases hf
 |fn f cs us hl h=>cases hf
 |junk v=>exact .junk v
def aM9(rows:List (List T)):Prop:= ∀row,row∈rows→ ∀x,x∈row→flatT x=true
inductive FlatO (Γ:List Nd):Option Nat→T→Prop
 |frz (x:T) (h:flatT x=true):FlatO Γ none x
 |own (m:Nat) (rows:List (List T)) (h: ∀(i j:Nat) row x,rows[i]? =some row→row[j]? =some x→FlatO Γ ((ndOf Γ m).kid j) x):FlatO Γ (some m) (.sl rows)
theorem RO.flat{Γ:List Nd}{w:World}{X X':Nat→Prop}{m:Option Nat}{x:T}{v:Value}{N:Nat→Prop}(h:RO Γ w X m x v N):FlatO Γ m x→RO Γ w X' m x v N:=by
 induction h with
 |frz x v N h hN=>intro hf;cases hf with|frz _ hf=>exact .frz _ _ _ (h.flat hf) hN
 |nil m N hN=>intro _;exact .nil _ _ hN
 |own m rows b cap us B N hw hs hm hl hsz hr hB hd hN ih=>
  intro hf;cases hf with
  |own _ _ hf=>exact .own m rows b cap us B N hw hs hm hl hsz (fun i j row x u a1 a2 a3=>ih i j row x u a1 a2 a3 (hf i j row x a1 a2)) hB hd hN
theorem lB{Γ:List Nd}{m:Nat}{α:Type}{f:α→List T}(h: ∀(y:α) (j:Nat) x,(f y)[j]? =some x→FlatO Γ ((ndOf Γ m).kid j) x)(l:List α): ∀(i j:Nat) row x,(List.map f l)[i]? =some row→row[j]? =some x→FlatO Γ ((ndOf Γ m).kid j) x:=fun i j row x h1 h2=>by obtain⟨y,_,rfl⟩:=vAT.1 (dD h1);exact h y j x h2
def aKL:E→Prop
 | .arr _ _ _ rows=>aM9 rows
 | .tree Γ m _ rows hs=>hs=[]∧ ∀(i j:Nat) row x,rows[i]? =some row→row[j]? =some x→FlatO Γ ((ndOf Γ m).kid j) x
 |_=>False
inductive Bor (inn:List E):V→V→Prop where
 |t (x:T):Bor inn (.t x) (.t x)
 |arr (id:Nat) (ty:TypeId) (gen size:Nat) (rows:List (List T)) (n:Nat) (h:inn[id]? =some (.arr ty gen size rows)) (hn:n=rows.length):Bor inn (.msl id gen size 0 n) (.t (.sl rows))
 |tree (id:Nat) (Γ:List Nd) (m gen size:Nat) (rows:List (List T)) (n:Nat) (h:inn[id]? =some (.tree Γ m gen rows [])) (hz:size=(ndOf Γ m).size) (hn:n=rows.length):Bor inn (.msl id gen size 0 n) (.t (.sl rows))
 |agg (cs cs':List V) (hl:cs.length=cs'.length) (h: ∀(i:Nat) c c',cs[i]? =some c→cs'[i]? =some c'→Bor inn c c'):Bor inn (.agg cs) (.agg cs')
def Bors(inn:List E):List V→List V→Prop
 | [],[]=>True
 |v::vs,v'::vs'=>Bor inn v v'∧Bors inn vs vs'
 |_,_=>False
theorem Bors.get{inn:List E}: ∀{vs vs':List V},Bors inn vs vs'→vs.length=vs'.length∧ ∀(i:Nat) c c',vs[i]? =some c→vs'[i]? =some c'→Bor inn c c'
 | [],[],_=>⟨rfl,fun i c c' h _=>by simp at h⟩
 |v::vs,v'::vs',h=>⟨by simp [h.2.get.1],fun i c c' h1 h2=>by
  match i with
  |0=>simp at h1 h2;subst h1;subst h2;exact h.1
  |i+1=>exact h.2.get.2 i c c' (by simpa using h1) (by simpa using h2)⟩
 | [],_::_,h=>h.elim
 |_::_,[],h=>h.elim
theorem Bor.mk{inn:List E}{cs cs':List V}(h:Bors inn cs cs'):Bor inn (.agg cs) (.agg cs'):= .agg _ _ h.get.1 h.get.2
theorem aDe{G:Glob}{inn:List E}{β:Map}{w:World}{X:Nat→Prop}(hi:Inn G inn β w X){id gen size:Nat}{rows:List (List T)}{u:Value}
  (hu:RV β w (ownOf X β (listH inn 0)) (.msl id gen size 0 rows.length) u)
  (he:(β id=some (none,gen)∧rows=[])∨ ∃(b:Nat) (us:Array Value),β id=some (some b,gen)∧(∃ty,w.heap[b]? =some (.cells us ty (0,0)))∧rows.length*size≤us.size∧(∀row,row∈rows→row.length=size)∧
   ∀(i j:Nat) (row:List T) (x:T) (y:Value),rows[i]? =some row→row[j]? =some x→us[i*size+j]? =some y→RT w X x y):RT w X (.sl rows) u:=by
 rcases he with ⟨h1,rfl⟩|⟨b,us,h1,⟨ty,h2⟩,h3,h4,h5⟩
 ·rcases bP hu h1 with ⟨_,_,_,_,_,h,_⟩|⟨_,_,_,rfl⟩
  ·cases h
  exact .sl0 _ _
 rcases bP hu h1 with ⟨cap,b',n,ty',rfl,h,hw,_,_,hl,_⟩|⟨h,_⟩
 ·cases h;have hcell: ∀i j,i<rows.length→j<size→ ∃y,us[i*size+j]? =some y:=fun i j hi hj=>by
   have:(i+1)*size≤rows.length*size:=jL _ hi;rw [jJ] at this;exact⟨_,vAI (show i*size+j<us.size by omega)⟩
  have hq:=RT.sl (w:=w) (X:=X) rows b (0*size) size cap (fun i j=>us.getD (i*size+j) undef) hw (hi.place id b (.inl ⟨_,h1⟩)).2.1 hl h4 (fun i j hi hj=>?_) fun i j row x hr hx=>?_
  ·exact hq
  ·obtain⟨y,hy⟩:=hcell i j hi hj;have hlt:=(vAx.1 hy).1
   have:0*size+i*size+j=i*size+j:=by omega
   rw [this];simp [World.cell?,h2,hlt]
  have hi':=(cC.1 hr).1;have hj':j<size:=by rw [←h4 row (dD hr)];exact(cC.1 hx).1
  obtain⟨y,hy⟩:=hcell i j hi' hj';have hlt:=(vAx.1 hy).1;have e:us.getD (i*size+j) undef=y:=by rw [←(vAx.1 hy).2];simp [hlt]
  show RT w X x (us.getD (i*size+j) undef);rw [e];exact h5 i j row x y hr hx hy
 cases h
theorem Bor.rv{G:Glob}{inn:List E}{β:Map}{w:World}{X:Nat→Prop}(hi:Inn G inn β w X){v v':V}(hb:Bor inn v v'): ∀{u:Value},RV β w (ownOf X β (listH inn 0)) v u→RV d8 w X v' u:=by
 induction hb with
 |t x=>intro u h;cases h with|t _ _ h=>exact .t _ _ (h.mono (Ext.refl _ _) fun b _ h=> .inl h)
 |arr id ty gen size rows n h hn=>
  intro u hu;subst hn;have hre:=hi.heap id _ h;refine .t _ _ (aDe hi hu ?_);rcases hre.2 with ⟨h1,h2⟩|⟨b,us,h1,h2,h3,h4,h5⟩
  ·exact .inl ⟨h1,h2⟩
  exact .inr ⟨b,us,h1,⟨_,h2⟩,h3,h4,fun i j row x y a1 a2 a3=>(h5 i j row x y a1 a2 a3).mono (Ext.refl _ _) fun b _ h=> .inl h⟩
 |tree id Γ m gen size rows n h hz hn=>
  intro u hu;subst hn;subst hz;have hre:=hi.heap id _ h;refine .t _ _ (aDe hi hu ?_);rcases hre.2 with ⟨h1,h2,_⟩|⟨b,us,B,h1,h2,h3,h4,h5,h6,h7,h8⟩
  ·exact .inl ⟨h1,h2⟩
  exact .inr ⟨b,us,h1,⟨_,h2⟩,h3,h4,fun i j row x y a1 a2 a3=>(h5 i j row x y a1 a2 a3).none.shed (fun b h=> .inl h) fun c hc=>(hi.place id c (.inr ((h8 c).2 ⟨i,j,hc⟩))).2.1⟩
 |agg cs cs' hl _ ih=>
  intro u hu;cases hu with
  |agg _ us hs hr=>
   refine .agg _ us (by omega) fun i c' u hc hu=>?_;have hlt:i<cs.length:=by rw [hl];exact(cC.1 hc).1
   have hc0:=dH hlt;exact ih i _ c' hc0 hc (hr i _ u hc0 hu)
theorem Bors.rvs{G:Glob}{inn:List E}{β:Map}{w:World}{X:Nat→Prop}(hi:Inn G inn β w X): ∀{vs vs':List V} {us:List Value},Bors inn vs vs'→RVs β w (ownOf X β (listH inn 0)) vs us→RVs d8 w X vs' us
 | [],[],[],_,_=>trivial
 |_::_,_::_,_::_,hb,h=>⟨hb.1.rv hi h.1,Bors.rvs hi hb.2 h.2⟩
 | [],_::_,_,h,_=>h.elim
 |_::_,[],_,h,_=>h.elim
 | [],[],_::_,_,h=>h.elim
 |_::_,_::_,[],_,h=>h.elim
def Map.cat(n:Nat)(β β':Map):Map:=⟨fun k=>bif Nat.blt k n then β k else β' (k-n),fun k b=>(k<n∧β.n k b)∨(n≤k∧β'.n (k-n) b)⟩
theorem aBk{n:Nat}{β β':Map}{k:Nat}(h:k<n):β.cat n β' k=β k:=by show(bif Nat.blt k n then β k else β' (k-n))=β k;rw [show Nat.blt k n=true from by simpa [Nat.blt_eq] using h];rfl
theorem O6{n:Nat}{β β':Map}{k:Nat}(h:n≤k):β.cat n β' k=β' (k-n):=by
 show(bif Nat.blt k n then β k else β' (k-n))=β' (k-n)
 have:Nat.blt k n=false:=by
  cases hb:Nat.blt k n with
  |false=>rfl
  |true=>
   have:k<n:=by simpa [Nat.blt_eq] using hb
   omega
 rw [this];rfl
theorem aBl{n:Nat}{β β':Map}{k b:Nat}(h:At (β.cat n β') k b):(k<n∧At β k b)∨(n≤k∧At β' (k-n) b):=by
 rcases h with ⟨g,h⟩|h|h
 ·by_cases hk:k<n
  ·rw [aBk hk] at h;exact .inl ⟨hk,.inl ⟨g,h⟩⟩
  rw [O6 (by omega)] at h;exact .inr ⟨by omega,.inl ⟨g,h⟩⟩
 ·exact .inl ⟨h.1,.inr h.2⟩
 exact .inr ⟨h.1,.inr h.2⟩
theorem aKt{P:Program}{G:Glob}{f:FuncId}{inn out:List E}{args args':List V}{r:V}(h:VCC P G f [] args' r out)(hb:Bors inn args args')(hr:aAV r=true)(ho: ∀e,e∈out→aKL e):
  VCC P G f inn args (r.ren (List.range' inn.length out.length)) (inn++out):=by
 refine⟨h.1,fun w X β0 us hG hX hi hu=>?_⟩;have hm0: ∀b,ownOf X d8 (listH [] 0) b→X b:=by
  rintro b (h|⟨_,_,h⟩)
  ·exact h
  exact(jS h).elim
 have hnil:Inn G [] d8 w X:=⟨fun _ _=>rfl,fun _ _ _ h=>h,fun _ _ _ h=>(jS h).elim,fun _ _ h=>(jS h).elim,fun k e h=>by simp at h⟩
 refine(h.2 w X d8 us hG hX hnil ((hb.rvs hi hu).mono (Ext.refl _ _) (fun b _=>hm0 b) (MLe.refl _) (Shaped.refl _ _))).mono ?_;rintro e w' ⟨u,i,β',rfl,_,L⟩;have hext:Ext (fun _=>False) w w':=L.ext.weaken fun b _ ⟨k,hk⟩=>jS hk;have hnew: ∀k b,At β' k b→w.heap.size≤b:=fun k b hk=>by
  rcases(L.fresh k b hk).1 with ⟨k',h1,_⟩|h1
  ·exact absurd h1 (vBC _)
  exact h1
 have hat: ∀k b,At β0 k b→k<inn.length:=by
  rintro k b (⟨g,h⟩|h)
  ·apply vAY;intro hle;rw [hi.dom k hle] at h;cases h
  exact vAY fun hle=>hi.domn k b hle h
 have hold: ∀b,b<w.heap.size→ownOf X (β0.cat inn.length β') (listH (inn++out) 0) b→ownOf X β0 (listH inn 0) b:=by
  rintro b hlt (hx|⟨k,h1,h2⟩)
  ·exact .inl hx
  rcases aBl h2 with ⟨h3,h4⟩|⟨_,h4⟩
  ·refine .inr ⟨k,?_,h4⟩;rw [kY,dH h3];simp
  have:=hnew _ _ h4;omega
 have hmle:MLe β0 (β0.cat inn.length β'):=fun k q g hq=>by
  have:k<inn.length:=vAY fun hle=>by rw [hi.dom k hle] at hq;cases hq
  exact .inl (by rw [aBk this];exact hq)
 refine⟨u,(),β0.cat inn.length β',rfl,trivial,?_⟩;refine⟨hext.weaken fun b _ h=>h.elim,fun id hid=> .inl (aBk hid),fun b hb=>eV (hext.keep b hb fun h=>h),fun k hk=>?_,fun k b hk hn=>?_,?_,?_,?_,?_⟩
 ·rw [nF] at hk;rw [O6 (by omega)];exact L.dom _ (show out.length≤_ by omega)
 ·rw [nF] at hk;rcases hn with h|h
  ·omega
  exact L.domn _ b (show out.length≤_ by omega) h.2
 ·intro id id' b h1 h2;rcases aBl h1 with ⟨a1,a2⟩|⟨a1,a2⟩<;>rcases aBl h2 with ⟨b1,b2⟩|⟨b1,b2⟩
  ·exact hi.inj id id' b a2 b2
  ·have:=(hi.place id b a2).1;have:=hnew _ _ b2;omega
  ·have:=(hi.place id' b b2).1;have:=hnew _ _ a2;omega
  have:=L.inj _ _ b a2 b2;omega
 ·intro k b hk;rcases aBl hk with ⟨h1,h2⟩|⟨_,h2⟩
  ·exact⟨.inl ⟨k,h1,h2⟩,vAN (hi.place k b h2).1 hext.size⟩
  exact⟨.inr (hnew _ _ h2),(L.fresh _ b h2).2⟩
 ·intro k e hk;by_cases hlt:k<inn.length
  ·rw [I0 hlt] at hk;refine(hi.heap k e hk).mono (hext.weaken fun b _ h=>h.elim) hold hmle (fun x hx=>by rw [aBk hlt];exact hx) (dA hext) (fun b hb=>hext.keep b (hi.place k b hb).1 fun h=>h) fun b=>⟨fun h=>?_,fun h=> .inl ⟨hlt,h⟩⟩
   rcases h with h|h
   ·exact h.2
   omega
  rw [I1 (by omega)] at hk;have hre:=L.heap _ e hk;have hfe:=ho e (dD hk);cases e with
  |cells cs=>exact hfe.elim
  |tree Γ m gen rows hs=>
   obtain⟨rfl,hfe⟩:=hfe;refine⟨hre.1,?_⟩;have e1:β0.cat inn.length β' k=β' (k-inn.length):=O6 (by omega);have e2: ∀c,(β0.cat inn.length β').n k c↔β'.n (k-inn.length) c:=fun c=>⟨fun h=>by
    rcases h with ⟨h,_⟩|⟨_,h⟩
    ·omega
    exact h,fun h=> .inr ⟨by omega,h⟩⟩
   rcases hre.2 with ⟨h1,h2,h3⟩|⟨b,us,B,h1,h2,h3,h4,h5,h6,h7,h8⟩
   ·exact .inl ⟨by rw [e1];exact h1,h2,fun c hc=>h3 c ((e2 c).1 hc)⟩
   exact .inr ⟨b,us,B,by rw [e1];exact h1,h2,h3,h4,fun i j row x u a1 a2 a3=>Cell.of ((h5 i j row x u a1 a2 a3).none.flat (hfe i j row x a1 a2)),h6,h7,fun c=>(e2 c).trans (h8 c)⟩
  |arr ty gen size rows=>
   refine⟨hre.1,?_⟩;have e1:β0.cat inn.length β' k=β' (k-inn.length):=O6 (by omega);rcases hre.2 with ⟨h1,h2⟩|⟨b,us,h1,h2,h3,h4,h5⟩
   ·exact .inl ⟨by rw [e1];exact h1,h2⟩
   exact .inr ⟨b,us,by rw [e1];exact h1,h2,h3,h4,fun i j row x y a1 a2 a3=>(h5 i j row x y a1 a2 a3).flat (hfe row (dD a1) x (dD a2))⟩
 have h1:=RV.ren (β':=β0.cat inn.length β') (L:=List.range' inn.length out.length) (L.res.flat (X':=ownOf X (β0.cat inn.length β') (listH (inn++out) 0)) hr) fun k x hx=>?_
 ·exact h1
 have hk:k<out.length:=vAY fun hle=>by
  have hx':β' k=some x:=hx;rw [L.dom k hle] at hx';cases hx'
 have:(List.range' inn.length out.length).getD k 0=inn.length+k:=by
  rw [vBh,List.getElem?_range' (by omega)];simp
 rw [this,O6 (by omega)];rw [show inn.length+k-inn.length=k by omega];exact hx
theorem PCC.vc{P:Program}{G:Glob}{f:FuncId}{args:List V}{r:V}(h:PCC P G f args r):VCC P G f [] args r []:=by
 refine⟨h.1,fun w X β0 us hG hX hi hu=>?_⟩;have hno: ∀k b,¬At β0 k b:=by
  rintro k b (⟨g,h⟩|h)
  ·rw [hi.dom k (Nat.zero_le _)] at h;cases h
  exact hi.domn k b (Nat.zero_le _) h
 have hX': ∀b,ownOf X β0 (listH [] 0) b→b<w.heap.size:=by
  rintro b (h|⟨k,h,_⟩)
  ·exact hX b h
  simp [listH,l7] at h
 have hz: ∀(vs:List V) (us:List Value),RVs β0 w (ownOf X β0 (listH [] 0)) vs us→RVs d8 w X vs us:=fun vs us h=>
  h.mono (Ext.refl _ _) (fun b _ h=> .inl h) (fun id q g hq=>by rw [hi.dom id (Nat.zero_le _)] at hq;cases hq) (Shaped.refl _ _)
 refine(h.2 w X us hG hX (hz _ _ hu)).mono ?_;rintro e w' ⟨u,rfl,hE,hr⟩;refine⟨u,(),d8,rfl,trivial,hE.weaken fun b _ h=>h.elim,fun id hid=>absurd hid (vBC _),fun b hb=>eV (hE.keep b hb fun h=>h),fun _ _=>rfl,fun _ _ _ h=>h,fun _ _ _ h=>(jS h).elim,fun _ _ h=>(jS h).elim,fun k e h=>by simp at h,?_⟩;refine hr.mono (Ext.refl _ _) (fun b _ h=>?_) (MLe.refl _) (Shaped.refl _ _);rcases h with h|⟨k,h,_⟩
 ·exact h
 simp [listH,l7] at h
end Go.Lift
