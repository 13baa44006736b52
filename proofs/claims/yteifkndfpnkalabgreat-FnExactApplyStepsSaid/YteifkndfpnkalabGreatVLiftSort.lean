/- Tools. -/
import Derived.Test.YteifkndfpnkalabGreatVLiftIns
import Derived.Test.YteifkndfpnkalabGreatVLiftSq
import Derived.Shelf.SlSortCmp.NoneTotal
set_option linter.unusedVariables false
namespace Go.Lift
open Go Go.Proofs
open Option renaming some -> aa, none -> ak, map_some -> gP
theorem NN: ∀a,cmpL a a=0
 | []=>rfl
 |x::a=>by unfold cmpL;rw[be O,be O];exact NN a
theorem Hf: ∀b c,cmpL b c<0↔0<cmpL c b
 | [],[]=>by simp[cmpL]
 | [],_::_=>by simp[cmpL]
 |_::_,[]=>by simp[cmpL]
 |x::b,y::c=>by
  unfold cmpL;by_cases a:x<y
  ·rw[bg a,be O,bg a];omega
  by_cases d:y<x
  ·rw[be a,bg d,bg d];omega
  rw[be a,be d,be d,be a];exact Hf b c
theorem Gr: ∀{a b},cmpL a b=0->a=b
 | [],[],_=>rfl
 | [],_::_,h=>by simp[cmpL] at h
 |_::_,[],h=>by simp[cmpL] at h
 |x::a,y::b,h=>by
  unfold cmpL at h;by_cases c:x<y
  ·rw[bg c] at h;omega
  by_cases d:y<x
  ·rw[be c,bg d] at h;omega
  rw[be c,be d] at h;rw[Gr h,show x=y by omega]
theorem FU: ∀i k l,cmpL i k<0->cmpL k l<0->cmpL i l<0
 | [],[],_,h,_=>by simp[cmpL] at h
 | [],_::_,[],_,h=>by simp[cmpL] at h
 | [],_::_,_::_,_,_=>by simp[cmpL]
 |_::_,[],_,h,_=>by simp[cmpL] at h
 |_::_,_::_,[],_,h=>by simp[cmpL] at h
 |x::i,y::k,z::l,m,e=>by
  unfold cmpL at m e⊢;by_cases a:x<y
  ·by_cases b:y<z
   ·rw[bg O];omega
   by_cases c:z<y
   ·rw[be b,bg c] at e;omega
   rw[bg O];omega
  by_cases b:y<x
  ·rw[be a,bg b] at m;omega
  by_cases c:y<z
  ·rw[bg O];omega
  by_cases d:z<y
  ·rw[be c,bg d] at e;omega
  rw[be O,be O];rw[be a,be b] at m;rw[be c,be d] at e;exact FU i k l m e
structure uv (P:Program) (g:FuncId):Prop where
 both: ∀(dm hN n c cL kR m d:Nat) (xs ys:List Int) (w:World),xs.length=n->ys.length=m->n<=9223372036854775807->m<=9223372036854775807->(∀j,j<xs.length->w.cell? ⟨dm,hN+j,ak⟩=aa (.int .i64 (xs.getD j 0)))->
  (∀j,j<ys.length->w.cell? ⟨cL,kR+j,ak⟩=aa (.int .i64 (ys.getD j 0)))->
  Calls P g #[.slice (aa ⟨dm,hN,ak⟩) n c,.slice (aa ⟨cL,kR,ak⟩) m d] w λe w'=>e= .returned (.int .i64 (cmpL xs ys))/\w'=w
 pM: ∀(aP a2:Option Addr) (c m d:Nat) (w:World),m<=9223372036854775807->Calls P g #[.slice aP 0 c,.slice a2 m d] w λe w'=>e= .returned (.int .i64 (if 0<m then-1 else 0))/\w'=w
 Sn: ∀(dm hN n c d:Nat) (a2:Option Addr) (x:Int) (w:World),0<n->n<=9223372036854775807->w.cell? ⟨dm,hN,ak⟩=aa (.int .i64 x)->Calls P g #[.slice (aa ⟨dm,hN,ak⟩) n c,.slice a2 0 d] w λe w'=>e= .returned (.int .i64 1)/\w'=w
variable {w:World}{X:Nat->Prop}{d:List Int}{v:Value}{g:FuncId}{b:Nat}{G:fh}{e:TypeId}
theorem xU(h:c8 w X (.bG (d.map kf)) v):
  (d=[]/\ ∃a c,v= .slice a 0 c)\/ ∃(b o c:Nat),0<d.length/\v= .slice (aa ⟨b,o,ak⟩) d.length c/\ ∀j,j<d.length->w.cell? ⟨b,o+j,ak⟩=aa (.int .i64 (d.getD j 0)):=by
 generalize y:d.map kf=z at h;cases h with
 |gh a i=>exact .inl ⟨by simpa using y,a,i,rfl⟩
 |bG _ b l m i f F G A p D q=>
  subst y;cases d with
  |nil=>exact .inl ⟨rfl,_,_,rfl⟩
  |cons x d=>
   have r:m=1:=by have:=p (kf x) bl;simpa using this.symm
   subst r;refine .inr ⟨b,l,i,bl,bl,λj s=>?_⟩;have B:=D j 0 (by simpa using s) O;have e:(x::d).getD j 0=(x::d)[j]:=by rw[fc,bC s];rfl
   have C:=q j 0 (kf (x::d)[j]) (.int .i64 (x::d)[j]) (by rw[eG,bC s];rfl) rfl;rw[show l+j*1+0=l+j by omega] at B;rw[B,e];generalize f j 0=u at C;cases C with
   |int k n=>rfl
theorem Qg{P:Program}(h:uv P g){l:List Int}{u:Value}(z:c8 w X (.bG (d.map kf)) v)(A:c8 w X (.bG (l.map kf)) u)(C:d.length<=1000000000)(D:l.length<=1000000000):
  Calls P g #[v,u] w λe k=>e= .returned (.int .i64 (cmpL d l))/\k=w:=by
 rcases xU z with ⟨rfl,a,c,rfl⟩|⟨b,o,c,m,rfl,n⟩<;>rcases xU A with ⟨rfl,p,i,rfl⟩|⟨q,r,i,s,rfl,B⟩
 ·exact(h.pM a p c 0 i w O).mono (by rintro e k ⟨rfl,rfl⟩;exact⟨rfl,rfl⟩)
 ·refine(h.pM a (aa ⟨q,r,ak⟩) c l.length i w O).mono ?_;rintro e k ⟨rfl,rfl⟩;cases l with
  |nil=>simp at s
  |cons y l=>exact⟨by rw[bg s];rfl,rfl⟩
 ·refine(h.Sn b o d.length c i p (d.getD 0 0) w m O (n 0 m)).mono ?_;rintro e k ⟨rfl,rfl⟩;cases d with
  |nil=>simp at m
  |cons x d=>exact⟨rfl,rfl⟩
 exact h.both b o d.length c q r l.length i d l w rfl rfl O O n B
section sort
open Go.Shelf Go.RowKit Go.Lib Go.Sort
variable {P:Program}{ρ:Ren}
theorem Ea:SWO (ltOf cmpL) where
 irrefl x:=by unfold ltOf;rw[NN];rfl
 trans x y z c b:=by
  unfold ltOf at*;simp only[decide_eq_true_eq] at*;exact FU x y z c b
 ntrans x y z c b:=by
  unfold ltOf at*;simp only[decide_eq_false_iff_not] at*;intro h;by_cases a:cmpL y x<0
  ·exact b (FU y x z a h)
  have e:cmpL x y=0:=by
   have:=Hf y x;omega
  have:=Gr e;subst this;exact b h
theorem abI: ∀x y,ltOf cmpL x y=false->ltOf cmpL y x=false->x=y:=λx y a b=>by
 unfold ltOf at*;simp only[decide_eq_false_iff_not] at*
 have:=Hf y x;exact Gr O
def dW(w:World)(X:Nat->Prop):Type:={q:Value×List Int // c8 w X (.bG (q.2.map kf)) q.1/\q.2.length<=1000000000}
instance (w:World) (X:Nat->Prop):Inhabited (dW w X):=⟨⟨(.slice ak 0 0,[]),.gh ak 0,bl⟩⟩
def dW.enc{w:World}{X:Nat->Prop}(x:dW w X):Value:=x.1.1
def dW.cb{w:World}{X:Nat->Prop}(x:dW w X):List Int:=x.1.2
def vd{w:World}{X:Nat->Prop}(x y:dW w X):Int:=cmpL x.cb y.cb
theorem dW.one:OneCell (dW.enc (w:=w) (X:=X)):=λx=>x.2.1.hP
theorem P9:SWO (ltOf (vd (w:=w) (X:=X))) where
 irrefl x:=Ea.irrefl x.cb
 trans x y z:=Ea.trans x.cb y.cb z.cb
 ntrans x y z:=Ea.ntrans x.cb y.cb z.cb
theorem LN{a:Array Value}{t:TypeId}(d:w.heap[b]? =aa (.cells a t (0,0)))(f:Array Value->Array Value):mapBlock w b f=w.setRow b (f a):=by rw[mapBlock_congr w b f (λ_=>f a) λc e Jh h=>by rw[d] at h;cases h;rfl];rfl
theorem H3{m:Nat}{dk:Array (dW w X)}{os:Array Obj}(a:X b):Ext X w (sortWorld dW.enc w b 0 m dk os):=by
 refine⟨rfl,rfl,rfl,?_,λk d c=>?_⟩
 ·show w.heap.size<=((putRow dW.enc (Sort.ahead w m) b 0 dk).heap++os).size;rw[Array.size_append,Go.Sort.size_putRow];exact Nat.le_add_right _ _
 show((putRow dW.enc (Sort.ahead w m) b 0 dk).heap++os)[k]? =_;have h:(putRow dW.enc (Sort.ahead w m) b 0 dk).heap.size=w.heap.size:=by rw[Go.Sort.size_putRow];rfl
 rw[Array.getElem?_append_left O];show((Sort.ahead w m).heap.modify b _)[k]? =_;rw[Array.getElem?_modify,be λe:b=k=>c (e▸a)];rfl
theorem Nd{d a:Array (dW w X)}(b:PermIn 0 d.size d a)(k:SortedIn (ltOf vd) 0 d.size a):(a.map dW.cb).toList=fD (d.map dW.cb).toList:=by
 refine sorted_unique_holds Ea abI (d.map dW.cb) (a.map dW.cb) ⟨by simpa using b.1,λi l=>?_,?_⟩ λi j c m n=>?_
 ·have q:d.size<=i:=by
   rcases l with h|h
   ·omega
   simpa using h
  have c:=b.1;rw[getElem!_neg _ _ ca,getElem!_neg _ _ ca]
 ·have c:=b.2.2;have o:(a.map dW.cb).extract 0 (d.map dW.cb).size=(a.extract 0 d.size).map dW.cb:=bl
  have p:(d.map dW.cb).extract 0 (d.map dW.cb).size=(d.extract 0 d.size).map dW.cb:=bl
  rw[o,p,w2,w2];exact c.map _
 have kN:=b.1;have e:j<d.size:=by simpa using n
 have:=k i j c m e;rw[getElem!_pos a j O,getElem!_pos a i O] at this;rw[getElem!_pos _ j ca,getElem!_pos _ i ca,Array.getElem_map,Array.getElem_map];exact this
theorem ac4(L:SlLaysF.n6 P ρ)(raw:uv P g)(I9: ∀args w,(callFunc g args).run P w= .ok (.enter g args) w)(M:jh P (ρ.f 6)){q:Nat}(rows:List (List Int))(cR:rows.length<=1000000000)(hl: ∀l∈rows,l.length<=1000000000):
  hY P G (ρ.f 6) [aK e q 1 (bj ai) rows] [ms 0 q 1 (bj ai) rows,.fn g []] (.bY []) [aK e q 1 (bj ai) (fD rows)]:=by
 refine⟨M,?_⟩;intro w X p N j9 gj kM gV;have sW:N.length=2:=gV.length;obtain⟨hW,iY,rfl⟩: ∃a b,N=[a,b]:=by
  match N,sW with
  | [a,b],_=>exact⟨a,b,rfl⟩
 have W:=Rel.l4 (P:=P) (nt:=2) j9 gj kM gV (df _);obtain⟨S,s8,_⟩:=gV;obtain rfl:iY= .func (.func g) #[] #[]:=by
  cases s8 with
  |fn _ _ N T _=>
   have:N= #[]:=Kw T;rw[this]
 generalize vy:({tmps:=[hW,Value.func (.func g) #[] #[]].toArray++Array.replicate (2-[hW,Value.func (.func g) #[] #[]].toArray.size) undef,defers:=[]}:Act)=U at W;generalize lU:Ctx.dB P G w X [aK e q 1 (bj ai) rows].length p 2=K at W;have sS:K.X=X:=by rw[<-lU];rfl
 generalize ji:Lift.l4 [aK e q 1 (bj ai) rows] [ms 0 q 1 (bj ai) rows,.fn g []]=r at W;have z:r.H 0=aa (aK e q 1 (bj ai) rows):=by rw[<-ji];rfl
 have V:r.H=eu [aK e q 1 (bj ai) rows] 0:=by rw[<-ji];rfl
 have Y:own K p r.H=hQ X p (eu [aK e q 1 (bj ai) rows] 0):=by funext b;rw[V];show(K.X b\/_)=_;rw[sS];rfl
 rw[<-Y] at S;have sR:bb r.H 0 (aa (aK e q 1 (bj ai) (fD rows)))=eu [aK e q 1 (bj ai) (fD rows)] 0:=by
  rw[V];funext j
  match j with
  |0=>rfl
  |j+1=>rfl
 have fin: ∀(w':World),Rel K p {r with H:=bb r.H 0 (aa (aK e q 1 (bj ai) (fD rows)))} U w'->
   ∃u,∃_i:Unit,∃β,Ending.returned (.tuple #[])= .returned u/\True/\Left p β [aK e q 1 (bj ai) rows] [aK e q 1 (bj ai) (fD rows)] w w' X (.bY []) u:=by
  intro w' b5;subst lU;obtain⟨β,s9⟩:=EO (out:=[aK e q 1 (bj ai) (fD rows)]) b5 (df _) (.bY [] #[] rfl λi c u bW _=>by simp at bW) rfl (by
   intro id e0 t;refine⟨⟨e0,?_,jR.refl _⟩,?_⟩
   ·show bb r.H 0 _ id=_;rw[sR];exact t
   match id with
   |0=>cases t;exact⟨rfl,rfl⟩
   |k+1=>cases t)
  exact⟨_,(),β,rfl,trivial,s9⟩
 have jj:=(W.heap 0 _ z).2.1;have pe:=Ck (W.heap 0 _ z).2 S;have D:r.H 0≠ak:=by rw[z];simp
 rcases pe with ⟨rfl,h1,dp⟩|⟨b,cap,o,rfl,dp,A,oH,nD,Dk,b5⟩
 ·have sZ:rows=[]:=by simpa using h1
  subst sZ;refine(AnyF.slices_SortFunc_none (P:=P) (ρ:=ρ) {L with} ak 0 _ w).mono ?_;rintro e1 gO ⟨rfl,rfl⟩;refine fin _ ?_
  have:=W.zD 0 _ z;rw[show fD []=[] by simp[fD]];exact this
 have vx:own K p r.H b:= .inr ⟨0,D,.inl ⟨_,dp⟩⟩;have hlen:rows.length<=o.size:=by
  rw[oH];simpa using nD
 have oK: ∀(j:Nat) (v:j<rows.length),c8 w (own K p r.H) (.bG (rows[j].map kf)) (o[j]' O):=λj v=>
  b5 j 0 (bj ai rows[j]) (.bG (rows[j].map kf)) _ (by rw[eG,bC v];rfl) rfl (by
   rw[fs,bg ca];rw[show j*1+0=j by omega,ng,hT O])
 obtain⟨F,sP,sQ⟩: ∃F:Fin rows.length->dW w (own K p r.H),(∀j,(F j).enc=o[j.1]'(by have:=j.2;omega))/\ ∀j,(F j).cb=rows[j.1]:=
  ⟨λj=>⟨(o[j.1]'(by have:=j.2;omega),rows[j.1]),oK j.1 j.2,hl _ (fW j.2)⟩,λ_=>rfl,λ_=>rfl⟩
 obtain⟨d,cI⟩: ∃d:Array (dW w (own K p r.H)),d=Array.ofFn F:=⟨_,rfl⟩
 have B:d.size=rows.length:=by rw[cI];exact Array.size_ofFn
 have RD: ∀(j:Nat) (v:j<d.size),d[j].enc=o[j]' O/\d[j].cb=rows[j]' O:=λj v=>by
  subst cI;rw[Array.getElem_ofFn];exact⟨sP _,sQ _⟩
 have nC:(d.map dW.cb).toList=rows:=by
  refine List.ext_getElem (by simp[B]) λj h1 h2=>?_;rw[Array.getElem_toList,Array.getElem_map];exact(RD j O).2
 have hH:Holds dW.enc w b 0 d:=λj v=>by
  rw[dy,getElem!_pos d j v,(RD j v).1];refine⟨?_,by simp[World.frozen?,A]⟩
  have:j<o.size:=O
  simp[World.cell?,A,this]
 have sU:CmpLays1 P g #[] dW.enc vd b 0 d.size w:=CmpReads.lays (λm os dk T x y=>by
  have kK:=H3 (w:=w) (X:=own K p r.H) (b:=b) (m:=m) (dk:=dk) (os:=os) vx;exact(Qg raw (x.2.1.mono kK λ_ _ h=>h) (y.2.1.mono kK λ_ _ h=>h) x.2.2 y.2.2).mono (by
   rintro e1 gO ⟨rfl,rfl⟩;exact⟨rfl,0,rfl⟩))
 have run:=Any.slices_SortFunc L dW.enc dW.one vd P9 g #[] b 0 cap d w I9 sU hH (iD.1 A).1 O;rw[B] at run;rw[dF];refine run.mono ?_;rintro e1 gO ⟨rfl,Q,n,os,hp,T,mJ⟩;rw[<-B] at hp T;refine fin _ ?_;have E:=Nd hp T;rw[nC] at E;have ajZ:Q.size=rows.length:=by rw[hp.1,B]
 have I:(Sort.ahead w n).heap[b]? =aa (.cells o e (0,0)):=A;have s:sortWorld dW.enc w b 0 n Q os=grow ((Sort.ahead w n).setRow b (putCells dW.enc 0 Q o)) os:=by
  show grow (putRow dW.enc (Sort.ahead w n) b 0 Q) os=_;congr 1;exact LN I _
 have hCs:(putCells dW.enc 0 Q o).size=o.size:=by simp[putCells]
 have qW:Rel K p r U (Sort.ahead w n):=W.grow ⟨rfl,rfl,rfl,df _,λ_ _ _=>rfl⟩;have fC:=qW.setRow 0 b (.inl ⟨_,dp⟩) o e I (putCells dW.enc 0 Q o) hCs (aK e q 1 (bj ai) (fD rows)) D
  ⟨jj,Or.inr ⟨b,_,dp,setRow_heap _ _ _ _ _ _ I,by
   rw[hCs,dF,<-E,l7,Array.size_map];omega,λrow s=>by
    obtain⟨l,_,rfl⟩:=eH.1 s;rfl,λi j row x u aP a2 a3=>by
   rw[eG] at aP;cases R:(fD rows)[i]? with
   |none=>rw[R] at aP;cases aP
   |some l=>
    rw[R] at aP;simp only[gP,Option.some.injEq] at aP;subst aP
    match j,a2 with
    |0,a2=>
     simp only[List.getElem?_cons_zero,Option.some.injEq] at a2;subst a2;rw[<-E,ng,Array.getElem?_map] at R;cases C:Q[i]? with
     |none=>rw[C] at R;cases R
     |some y=>
      rw[C] at R;simp only[gP,Option.some.injEq] at R;subst R;have qZ:=(iD.1 C).1;have ahd:=(iD.1 C).2;have hu:u=y.enc:=by
       rw[show i*1+0=i by omega] at a3;unfold putCells at a3;rw[Array.getElem?_mapIdx,hT O] at a3;simp only[gP,Option.some.injEq] at a3;rw[bg O] at a3;rw[<-a3,Nat.sub_zero,getElem!_pos Q i qZ,ahd]
      subst hu;refine(y.2.1.mono (w':=Sort.ahead w n) ⟨rfl,rfl,rfl,df _,λ_ _ _=>rfl⟩ λ_ _ h=>h).mono ⟨rfl,rfl,rfl,bl,λkk _ hx=>setRow_other _ _ _ _ λe0=>hx ?_⟩ λ_ _ h=>h;subst e0;exact vx⟩⟩
 rw[mJ,s];refine fC.grow ⟨rfl,rfl,rfl,?_,λk hk _=>?_⟩
 ·show _<=(_++os).size;rw[Array.size_append];exact Nat.le_add_right _ _
 show(_++os)[k]? =_;rw[Array.getElem?_append_left hk]
theorem YS(L:SlLaysF.n6 P ρ)(b:uv P g)(d: ∀args w,(callFunc g args).run P w= .ok (.enter g args) w)(a:jh P (ρ.f 6)){x:List (List Int)}{i:Nat}{r:List (List Int)}(h:mQ x=aa r):
  hY P G (ρ.f 6) [aK e i 1 (bj ai) x] [ms 0 i 1 (bj ai) x,.fn g []] (.bY []) [aK e i 1 (bj ai) r]:=by
 unfold mQ at h;split at h
 ·rename_i c;cases h;exact ac4 L b d a x c.1 c.2
 cases h
end sort
end Go.Lift
