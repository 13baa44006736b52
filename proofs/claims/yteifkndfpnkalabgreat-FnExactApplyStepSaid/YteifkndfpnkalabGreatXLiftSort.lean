/- Tools. -/
import Derived.Test.YteifkndfpnkalabGreatXLiftIns
import Derived.Test.YteifkndfpnkalabGreatXLiftSq
import Derived.Shelf.SlSortCmp.NoneTotal
set_option linter.unusedVariables false
namespace Go.Lift
open Go Go.Proofs
open Option renaming some -> aa, none -> ak, map_some -> gN
theorem M8: ∀a,cmpL a a=0
 | []=>rfl
 |x::a=>by unfold cmpL;rw[be O,be O];exact M8 a
theorem G': ∀b c,cmpL b c<0↔0<cmpL c b
 | [],[]=>by simp[cmpL]
 | [],_::_=>by simp[cmpL]
 |_::_,[]=>by simp[cmpL]
 |x::b,y::c=>by
  unfold cmpL;by_cases a:x<y
  ·rw[bg a,be O,bg a];omega
  by_cases d:y<x
  ·rw[be a,bg d,bg d];omega
  rw[be a,be d,be d,be a];exact G' b c
theorem Gn: ∀{a b},cmpL a b=0->a=b
 | [],[],_=>rfl
 | [],_::_,h=>by simp[cmpL] at h
 |_::_,[],h=>by simp[cmpL] at h
 |x::a,y::b,h=>by
  unfold cmpL at h;by_cases c:x<y
  ·rw[bg c] at h;omega
  by_cases d:y<x
  ·rw[be c,bg d] at h;omega
  rw[be c,be d] at h;rw[Gn h,show x=y by omega]
theorem FM: ∀i k l,cmpL i k<0->cmpL k l<0->cmpL i l<0
 | [],[],_,h,_=>by simp[cmpL] at h
 | [],_::_,[],_,h=>by simp[cmpL] at h
 | [],_::_,_::_,_,_=>by simp[cmpL]
 |_::_,[],_,h,_=>by simp[cmpL] at h
 |_::_,_::_,[],_,h=>by simp[cmpL] at h
 |x::i,y::k,z::l,m,e=>by
  unfold cmpL at m e⊢;by_cases a:x<y
  ·by_cases b:y<z
   ·rw[bg O];omega
   by_cases c:z<y
   ·rw[be b,bg c] at e;omega
   rw[bg O];omega
  by_cases b:y<x
  ·rw[be a,bg b] at m;omega
  by_cases c:y<z
  ·rw[bg O];omega
  by_cases d:z<y
  ·rw[be c,bg d] at e;omega
  rw[be O,be O];rw[be a,be b] at m;rw[be c,be d] at e;exact FM i k l m e
structure uo (P:Program) (g:FuncId):Prop where
 both: ∀(dm hN n c cM kO m d:Nat) (xs ys:List Int) (w:World),xs.length=n->ys.length=m->n<=9223372036854775807->m<=9223372036854775807->(∀j,j<xs.length->w.cell? ⟨dm,hN+j,ak⟩=aa (.int .i64 (xs.getD j 0)))->
  (∀j,j<ys.length->w.cell? ⟨cM,kO+j,ak⟩=aa (.int .i64 (ys.getD j 0)))->
  Calls P g #[.slice (aa ⟨dm,hN,ak⟩) n c,.slice (aa ⟨cM,kO,ak⟩) m d] w λe w'=>e= .returned (.int .i64 (cmpL xs ys))/\w'=w
 pX: ∀(aP a2:Option Addr) (c m d:Nat) (w:World),m<=9223372036854775807->Calls P g #[.slice aP 0 c,.slice a2 m d] w λe w'=>e= .returned (.int .i64 (if 0<m then-1 else 0))/\w'=w
 Sm: ∀(dm hN n c d:Nat) (a2:Option Addr) (x:Int) (w:World),0<n->n<=9223372036854775807->w.cell? ⟨dm,hN,ak⟩=aa (.int .i64 x)->Calls P g #[.slice (aa ⟨dm,hN,ak⟩) n c,.slice a2 0 d] w λe w'=>e= .returned (.int .i64 1)/\w'=w
variable {w:World}{X:Nat->Prop}{d:List Int}{v:Value}{g:FuncId}{b:Nat}{G:fg}{e:TypeId}
theorem x4(h:c7 w X (.bH (d.map ke)) v):
  (d=[]/\ ∃a c,v= .slice a 0 c)\/ ∃(b o c:Nat),0<d.length/\v= .slice (aa ⟨b,o,ak⟩) d.length c/\ ∀j,j<d.length->w.cell? ⟨b,o+j,ak⟩=aa (.int .i64 (d.getD j 0)):=by
 generalize y:d.map ke=z at h;cases h with
 |gd a i=>exact .inl ⟨by simpa using y,a,i,rfl⟩
 |bH _ b l m i f F G A p D q=>
  subst y;cases d with
  |nil=>exact .inl ⟨rfl,_,_,rfl⟩
  |cons x d=>
   have r:m=1:=by have:=p (ke x) bl;simpa using this.symm
   subst r;refine .inr ⟨b,l,i,bl,bl,λj s=>?_⟩;have B:=D j 0 (by simpa using s) O;have e:(x::d).getD j 0=(x::d)[j]:=by rw[fa,bD s];rfl
   have C:=q j 0 (ke (x::d)[j]) (.int .i64 (x::d)[j]) (by rw[eG,bD s];rfl) rfl;rw[show l+j*1+0=l+j by omega] at B;rw[B,e];generalize f j 0=u at C;cases C with
   |int k n=>rfl
theorem Qf{P:Program}(h:uo P g){l:List Int}{u:Value}(z:c7 w X (.bH (d.map ke)) v)(A:c7 w X (.bH (l.map ke)) u)(C:d.length<=1000000000)(D:l.length<=1000000000):
  Calls P g #[v,u] w λe k=>e= .returned (.int .i64 (cmpL d l))/\k=w:=by
 rcases x4 z with ⟨rfl,a,c,rfl⟩|⟨b,o,c,m,rfl,n⟩<;>rcases x4 A with ⟨rfl,p,i,rfl⟩|⟨q,r,i,s,rfl,B⟩
 ·exact(h.pX a p c 0 i w O).mono (by rintro e k ⟨rfl,rfl⟩;exact⟨rfl,rfl⟩)
 ·refine(h.pX a (aa ⟨q,r,ak⟩) c l.length i w O).mono ?_;rintro e k ⟨rfl,rfl⟩;cases l with
  |nil=>simp at s
  |cons y l=>exact⟨by rw[bg s];rfl,rfl⟩
 ·refine(h.Sm b o d.length c i p (d.getD 0 0) w m O (n 0 m)).mono ?_;rintro e k ⟨rfl,rfl⟩;cases d with
  |nil=>simp at m
  |cons x d=>exact⟨rfl,rfl⟩
 exact h.both b o d.length c q r l.length i d l w rfl rfl O O n B
section sort
open Go.Shelf Go.RowKit Go.Lib Go.Sort
variable {P:Program}{ρ:Ren}
theorem D8:SWO (ltOf cmpL) where
 irrefl x:=by unfold ltOf;rw[M8];rfl
 trans x y z c b:=by
  unfold ltOf at*;simp only[decide_eq_true_eq] at*;exact FM x y z c b
 ntrans x y z c b:=by
  unfold ltOf at*;simp only[decide_eq_false_iff_not] at*;intro h;by_cases a:cmpL y x<0
  ·exact b (FM y x z a h)
  have e:cmpL x y=0:=by
   have:=G' y x;omega
  have:=Gn e;subst this;exact b h
theorem abR: ∀x y,ltOf cmpL x y=false->ltOf cmpL y x=false->x=y:=λx y a b=>by
 unfold ltOf at*;simp only[decide_eq_false_iff_not] at*
 have:=G' y x;exact Gn O
def dY(w:World)(X:Nat->Prop):Type:={q:Value×List Int // c7 w X (.bH (q.2.map ke)) q.1/\q.2.length<=1000000000}
instance (w:World) (X:Nat->Prop):Inhabited (dY w X):=⟨⟨(.slice ak 0 0,[]),.gd ak 0,bl⟩⟩
def dY.enc{w:World}{X:Nat->Prop}(x:dY w X):Value:=x.1.1
def dY.cb{w:World}{X:Nat->Prop}(x:dY w X):List Int:=x.1.2
def uX{w:World}{X:Nat->Prop}(x y:dY w X):Int:=cmpL x.cb y.cb
theorem dY.one:OneCell (dY.enc (w:=w) (X:=X)):=λx=>x.2.1.hP
theorem P7:SWO (ltOf (uX (w:=w) (X:=X))) where
 irrefl x:=D8.irrefl x.cb
 trans x y z:=D8.trans x.cb y.cb z.cb
 ntrans x y z:=D8.ntrans x.cb y.cb z.cb
theorem Ls{a:Array Value}{t:TypeId}(d:w.heap[b]? =aa (.cells a t (0,0)))(f:Array Value->Array Value):mapBlock w b f=w.setRow b (f a):=by rw[mapBlock_congr w b f (λ_=>f a) λc e Je h=>by rw[d] at h;cases h;rfl];rfl
theorem HX{m:Nat}{dk:Array (dY w X)}{os:Array Obj}(a:X b):Ext X w (sortWorld dY.enc w b 0 m dk os):=by
 refine⟨rfl,rfl,rfl,?_,λk d c=>?_⟩
 ·show w.heap.size<=((putRow dY.enc (Sort.ahead w m) b 0 dk).heap++os).size;rw[Array.size_append,Go.Sort.size_putRow];exact Nat.le_add_right _ _
 show((putRow dY.enc (Sort.ahead w m) b 0 dk).heap++os)[k]? =_;have h:(putRow dY.enc (Sort.ahead w m) b 0 dk).heap.size=w.heap.size:=by rw[Go.Sort.size_putRow];rfl
 rw[Array.getElem?_append_left O];show((Sort.ahead w m).heap.modify b _)[k]? =_;rw[Array.getElem?_modify,be λe:b=k=>c (e▸a)];rfl
theorem NM{d a:Array (dY w X)}(b:PermIn 0 d.size d a)(k:SortedIn (ltOf uX) 0 d.size a):(a.map dY.cb).toList=fD (d.map dY.cb).toList:=by
 refine sorted_unique_holds D8 abR (d.map dY.cb) (a.map dY.cb) ⟨by simpa using b.1,λi l=>?_,?_⟩ λi j c m n=>?_
 ·have q:d.size<=i:=by
   rcases l with h|h
   ·omega
   simpa using h
  have c:=b.1;rw[getElem!_neg _ _ cd,getElem!_neg _ _ cd]
 ·have c:=b.2.2;have o:(a.map dY.cb).extract 0 (d.map dY.cb).size=(a.extract 0 d.size).map dY.cb:=bl
  have p:(d.map dY.cb).extract 0 (d.map dY.cb).size=(d.extract 0 d.size).map dY.cb:=bl
  rw[o,p,xb,xb];exact c.map _
 have kL:=b.1;have e:j<d.size:=by simpa using n
 have:=k i j c m e;rw[getElem!_pos a j O,getElem!_pos a i O] at this;rw[getElem!_pos _ j cd,getElem!_pos _ i cd,Array.getElem_map,Array.getElem_map];exact this
theorem adg(L:SlLaysF.n6 P ρ)(raw:uo P g)(I6: ∀args w,(callFunc g args).run P w= .ok (.enter g args) w)(M:ji P (ρ.f 6)){q:Nat}(rows:List (List Int))(ca:rows.length<=1000000000)(cS: ∀l∈rows,l.length<=1000000000):
  hW P G (ρ.f 6) [aM e q 1 (bh ai) rows] [ms 0 q 1 (bh ai) rows,.fn g []] (.bZ []) [aM e q 1 (bh ai) (fD rows)]:=by
 refine⟨M,?_⟩;intro w X p N j7 gi kK gT;have s4:N.length=2:=gT.length;obtain⟨hU,ja,rfl⟩: ∃a b,N=[a,b]:=by
  match N,s4 with
  | [a,b],_=>exact⟨a,b,rfl⟩
 have W:=Rel.l1 (P:=P) (nt:=2) j7 gi kK gT (df _);obtain⟨S,te,_⟩:=gT;obtain rfl:ja= .func (.func g) #[] #[]:=by
  cases te with
  |fn _ _ N T _=>
   have:N= #[]:=Ks T;rw[this]
 generalize vw:({tmps:=[hU,Value.func (.func g) #[] #[]].toArray++Array.replicate (2-[hU,Value.func (.func g) #[] #[]].toArray.size) undef,defers:=[]}:Act)=U at W;generalize lN:Ctx.dD P G w X [aM e q 1 (bh ai) rows].length p 2=K at W;have sY:K.X=X:=by rw[<-lN];rfl
 generalize jj:Lift.l1 [aM e q 1 (bh ai) rows] [ms 0 q 1 (bh ai) rows,.fn g []]=r at W;have z:r.H 0=aa (aM e q 1 (bh ai) rows):=by rw[<-jj];rfl
 have V:r.H=ev [aM e q 1 (bh ai) rows] 0:=by rw[<-jj];rfl
 have Y:own K p r.H=hQ X p (ev [aM e q 1 (bh ai) rows] 0):=by funext b;rw[V];show(K.X b\/_)=_;rw[sY];rfl
 rw[<-Y] at S;have sX:a' r.H 0 (aa (aM e q 1 (bh ai) (fD rows)))=ev [aM e q 1 (bh ai) (fD rows)] 0:=by
  rw[V];funext j
  match j with
  |0=>rfl
  |j+1=>rfl
 have fin: ∀(w':World),Rel K p {r with H:=a' r.H 0 (aa (aM e q 1 (bh ai) (fD rows)))} U w'->
   ∃u,∃_i:Unit,∃β,Ending.returned (.tuple #[])= .returned u/\True/\Left p β [aM e q 1 (bh ai) rows] [aM e q 1 (bh ai) (fD rows)] w w' X (.bZ []) u:=by
  intro w' b6;subst lN;obtain⟨β,tf⟩:=EF (out:=[aM e q 1 (bh ai) (fD rows)]) b6 (df _) (.bZ [] #[] rfl λi c u bU _=>by simp at bU) rfl (by
   intro id e0 t;refine⟨⟨e0,?_,jQ.refl _⟩,?_⟩
   ·show a' r.H 0 _ id=_;rw[sX];exact t
   match id with
   |0=>cases t;exact⟨rfl,rfl⟩
   |k+1=>cases t)
  exact⟨_,(),β,rfl,trivial,tf⟩
 have jk:=(W.heap 0 _ z).2.1;have pg:=Cl (W.heap 0 _ z).2 S;have D:r.H 0≠ak:=by rw[z];simp
 rcases pg with ⟨rfl,h1,dr⟩|⟨b,cap,o,rfl,dr,A,oI,nD,Dk,b6⟩
 ·have s9:rows=[]:=by simpa using h1
  subst s9;refine(AnyF.slices_SortFunc_none (P:=P) (ρ:=ρ) {L with} ak 0 _ w).mono ?_;rintro e1 gM ⟨rfl,rfl⟩;refine fin _ ?_
  have:=W.zI 0 _ z;rw[show fD []=[] by simp[fD]];exact this
 have vv:own K p r.H b:= .inr ⟨0,D,.inl ⟨_,dr⟩⟩;have hlen:rows.length<=o.size:=by
  rw[oI];simpa using nD
 have oL: ∀(j:Nat) (v:j<rows.length),c7 w (own K p r.H) (.bH (rows[j].map ke)) (o[j]' O):=λj v=>
  b6 j 0 (bh ai rows[j]) (.bH (rows[j].map ke)) _ (by rw[eG,bD v];rfl) rfl (by
   rw[fs,bg cd];rw[show j*1+0=j by omega,nc,hR O])
 obtain⟨F,sV,sW⟩: ∃F:Fin rows.length->dY w (own K p r.H),(∀j,(F j).enc=o[j.1]'(by have:=j.2;omega))/\ ∀j,(F j).cb=rows[j.1]:=
  ⟨λj=>⟨(o[j.1]'(by have:=j.2;omega),rows[j.1]),oL j.1 j.2,cS _ (fV j.2)⟩,λ_=>rfl,λ_=>rfl⟩
 obtain⟨d,cJ⟩: ∃d:Array (dY w (own K p r.H)),d=Array.ofFn F:=⟨_,rfl⟩
 have B:d.size=rows.length:=by rw[cJ];exact Array.size_ofFn
 have Rz: ∀(j:Nat) (v:j<d.size),d[j].enc=o[j]' O/\d[j].cb=rows[j]' O:=λj v=>by
  subst cJ;rw[Array.getElem_ofFn];exact⟨sV _,sW _⟩
 have nC:(d.map dY.cb).toList=rows:=by
  refine List.ext_getElem (by simp[B]) λj h1 h2=>?_;rw[Array.getElem_toList,Array.getElem_map];exact(Rz j O).2
 have hH:Holds dY.enc w b 0 d:=λj v=>by
  rw[dA,getElem!_pos d j v,(Rz j v).1];refine⟨?_,by simp[World.frozen?,A]⟩
  have:j<o.size:=O
  simp[World.cell?,A,this]
 have s0:CmpLays1 P g #[] dY.enc uX b 0 d.size w:=CmpReads.lays (λm os dk T x y=>by
  have kI:=HX (w:=w) (X:=own K p r.H) (b:=b) (m:=m) (dk:=dk) (os:=os) vv;exact(Qf raw (x.2.1.mono kI λ_ _ h=>h) (y.2.1.mono kI λ_ _ h=>h) x.2.2 y.2.2).mono (by
   rintro e1 gM ⟨rfl,rfl⟩;exact⟨rfl,0,rfl⟩))
 have run:=Any.slices_SortFunc L dY.enc dY.one uX P7 g #[] b 0 cap d w I6 s0 hH (iE.1 A).1 O;rw[B] at run;rw[dH];refine run.mono ?_;rintro e1 gM ⟨rfl,Q,n,os,hp,T,mG⟩;rw[<-B] at hp T;refine fin _ ?_;have E:=NM hp T;rw[nC] at E;have ajW:Q.size=rows.length:=by rw[hp.1,B]
 have I:(Sort.ahead w n).heap[b]? =aa (.cells o e (0,0)):=A;have s:sortWorld dY.enc w b 0 n Q os=grow ((Sort.ahead w n).setRow b (putCells dY.enc 0 Q o)) os:=by
  show grow (putRow dY.enc (Sort.ahead w n) b 0 Q) os=_;congr 1;exact Ls I _
 have hCs:(putCells dY.enc 0 Q o).size=o.size:=by simp[putCells]
 have q5:Rel K p r U (Sort.ahead w n):=W.grow ⟨rfl,rfl,rfl,df _,λ_ _ _=>rfl⟩;have fC:=q5.setRow 0 b (.inl ⟨_,dr⟩) o e I (putCells dY.enc 0 Q o) hCs (aM e q 1 (bh ai) (fD rows)) D
  ⟨jk,Or.inr ⟨b,_,dr,setRow_heap _ _ _ _ _ _ I,by
   rw[hCs,dH,<-E,l3,Array.size_map];omega,λrow s=>by
    obtain⟨l,_,rfl⟩:=eH.1 s;rfl,λi j row x u aP a2 a3=>by
   rw[eG] at aP;cases R:(fD rows)[i]? with
   |none=>rw[R] at aP;cases aP
   |some l=>
    rw[R] at aP;simp only[gN,Option.some.injEq] at aP;subst aP
    match j,a2 with
    |0,a2=>
     simp only[List.getElem?_cons_zero,Option.some.injEq] at a2;subst a2;rw[<-E,nc,Array.getElem?_map] at R;cases C:Q[i]? with
     |none=>rw[C] at R;cases R
     |some y=>
      rw[C] at R;simp only[gN,Option.some.injEq] at R;subst R;have q8:=(iE.1 C).1;have ahf:=(iE.1 C).2;have hu:u=y.enc:=by
       rw[show i*1+0=i by omega] at a3;unfold putCells at a3;rw[Array.getElem?_mapIdx,hR O] at a3;simp only[gN,Option.some.injEq] at a3;rw[bg O] at a3;rw[<-a3,Nat.sub_zero,getElem!_pos Q i q8,ahf]
      subst hu;refine(y.2.1.mono (w':=Sort.ahead w n) ⟨rfl,rfl,rfl,df _,λ_ _ _=>rfl⟩ λ_ _ h=>h).mono ⟨rfl,rfl,rfl,bl,λkk _ hx=>setRow_other _ _ _ _ λe0=>hx ?_⟩ λ_ _ h=>h;subst e0;exact vv⟩⟩
 rw[mG,s];refine fC.grow ⟨rfl,rfl,rfl,?_,λk hk _=>?_⟩
 ·show _<=(_++os).size;rw[Array.size_append];exact Nat.le_add_right _ _
 show(_++os)[k]? =_;rw[Array.getElem?_append_left hk]
theorem Ze(L:SlLaysF.n6 P ρ)(b:uo P g)(d: ∀args w,(callFunc g args).run P w= .ok (.enter g args) w)(a:ji P (ρ.f 6)){x:List (List Int)}{i:Nat}{r:List (List Int)}(h:mN x=aa r):
  hW P G (ρ.f 6) [aM e i 1 (bh ai) x] [ms 0 i 1 (bh ai) x,.fn g []] (.bZ []) [aM e i 1 (bh ai) r]:=by
 unfold mN at h;split at h
 ·rename_i c;cases h;exact adg L b d a x c.1 c.2
 cases h
end sort
end Go.Lift
