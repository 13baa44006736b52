/- Tools. -/
import Derived.Test.YtcihigfifglboabGreatJLiftIns
import Derived.Test.YtcihigfifglboabGreatJLiftSq
import Derived.Shelf.SlSortCmp.NoneTotal
set_option linter.unusedVariables false
namespace Go.Lift
open Go Go.Proofs
theorem Lx: ∀a,cmpL a a=0
 | []=>rfl
 |x::a=>by unfold cmpL;rw[aY O,aY O];exact Lx a
theorem FL: ∀c d,cmpL c d<0↔0<cmpL d c
 | [],[]=>by simp[cmpL]
 | [],_::_=>by simp[cmpL]
 |_::_,[]=>by simp[cmpL]
 |x::c,y::d=>by
  unfold cmpL;by_cases a:x<y
  ·rw[a1 a,aY O,a1 a];omega
  by_cases e:y<x
  ·rw[aY a,a1 e,a1 e];omega
  rw[aY a,aY e,aY e,aY a];exact FL c d
theorem ET: ∀{a c},cmpL a c=0->a=c
 | [],[],_=>rfl
 | [],_::_,h=>by simp[cmpL] at h
 |_::_,[],h=>by simp[cmpL] at h
 |x::a,y::c,h=>by
  unfold cmpL at h;by_cases d:x<y
  ·rw[a1 d] at h;omega
  by_cases e:y<x
  ·rw[aY d,a1 e] at h;omega
  rw[aY d,aY e] at h;rw[ET h,show x=y by omega]
theorem EB: ∀i k l,cmpL i k<0->cmpL k l<0->cmpL i l<0
 | [],[],_,h,_=>by simp[cmpL] at h
 | [],_::_,[],_,h=>by simp[cmpL] at h
 | [],_::_,_::_,_,_=>by simp[cmpL]
 |_::_,[],_,h,_=>by simp[cmpL] at h
 |_::_,_::_,[],_,h=>by simp[cmpL] at h
 |x::i,y::k,z::l,m,e=>by
  unfold cmpL at m e⊢;by_cases a:x<y
  ·by_cases b:y<z
   ·rw[a1 O];omega
   by_cases c:z<y
   ·rw[aY b,a1 c] at e;omega
   rw[a1 O];omega
  by_cases b:y<x
  ·rw[aY a,a1 b] at m;omega
  by_cases c:y<z
  ·rw[a1 O];omega
  by_cases d:z<y
  ·rw[aY c,a1 d] at e;omega
  rw[aY O,aY O];rw[aY a,aY b] at m;rw[aY c,aY d] at e;exact EB i k l m e
structure tr (P:Program) (g:FuncId):Prop where
 both: ∀(cU hB n c cu kJ m d:Nat) (xs ys:List Int) (w:World),xs.length=n->ys.length=m->n<=9223372036854775807->m<=9223372036854775807->(∀j,j<xs.length->w.cell? ⟨cU,hB+j,none⟩=some (.int .i64 (xs.getD j 0)))->
  (∀j,j<ys.length->w.cell? ⟨cu,kJ+j,none⟩=some (.int .i64 (ys.getD j 0)))->
  Calls P g #[.slice (some ⟨cU,hB,none⟩) n c,.slice (some ⟨cu,kJ,none⟩) m d] w λe w'=>e= .returned (.int .i64 (cmpL xs ys))/\w'=w
 pv: ∀(aJ a2:Option Addr) (c m d:Nat) (w:World),m<=9223372036854775807->Calls P g #[.slice aJ 0 c,.slice a2 m d] w λe w'=>e= .returned (.int .i64 (if 0<m then-1 else 0))/\w'=w
 Qk: ∀(cU hB n c d:Nat) (a2:Option Addr) (x:Int) (w:World),0<n->n<=9223372036854775807->w.cell? ⟨cU,hB,none⟩=some (.int .i64 x)->Calls P g #[.slice (some ⟨cU,hB,none⟩) n c,.slice a2 0 d] w λe w'=>e= .returned (.int .i64 1)/\w'=w
variable {w:World}{X:Nat->Prop}{d:List Int}{v:Value}{g:FuncId}{b:Nat}{G:fe}{e:TypeId}
theorem wG(h:cX w X (.aD (d.map kb)) v):
  (d=[]/\ ∃a c,v= .slice a 0 c)\/ ∃(b o c:Nat),0<d.length/\v= .slice (some ⟨b,o,none⟩) d.length c/\ ∀j,j<d.length->w.cell? ⟨b,o+j,none⟩=some (.int .i64 (d.getD j 0)):=by
 generalize y:d.map kb=z at h;cases h with
 |fY a i=>exact .inl ⟨by simpa using y,a,i,rfl⟩
 |aD _ b l m i f F G A p D q=>
  subst y;cases d with
  |nil=>exact .inl ⟨rfl,_,_,rfl⟩
  |cons x d=>
   have r:m=1:=by have:=p (kb x) aV;simpa using this.symm
   subst r;refine .inr ⟨b,l,i,aV,aV,λj s=>?_⟩;have B:=D j 0 (by simpa using s) O;have e:(x::d).getD j 0=(x::d)[j]:=by rw[ez,br s];rfl
   have C:=q j 0 (kb (x::d)[j]) (.int .i64 (x::d)[j]) (by rw[ey,br s];rfl) rfl;rw[show l+j*1+0=l+j by omega] at B;rw[B,e];generalize f j 0=u at C;cases C with
   |int k n=>rfl
theorem Ou{P:Program}(h:tr P g){l:List Int}{u:Value}(z:cX w X (.aD (d.map kb)) v)(A:cX w X (.aD (l.map kb)) u)(C:d.length<=1000000000)(D:l.length<=1000000000):
  Calls P g #[v,u] w λe k=>e= .returned (.int .i64 (cmpL d l))/\k=w:=by
 rcases wG z with ⟨rfl,a,c,rfl⟩|⟨b,o,c,m,rfl,n⟩<;>rcases wG A with ⟨rfl,p,i,rfl⟩|⟨q,r,i,s,rfl,B⟩
 ·exact(h.pv a p c 0 i w O).mono (by rintro e k ⟨rfl,rfl⟩;exact⟨rfl,rfl⟩)
 ·refine(h.pv a (some ⟨q,r,none⟩) c l.length i w O).mono ?_;rintro e k ⟨rfl,rfl⟩;cases l with
  |nil=>simp at s
  |cons y l=>exact⟨by rw[a1 s];rfl,rfl⟩
 ·refine(h.Qk b o d.length c i p (d.getD 0 0) w m O (n 0 m)).mono ?_;rintro e k ⟨rfl,rfl⟩;cases d with
  |nil=>simp at m
  |cons x d=>exact⟨rfl,rfl⟩
 exact h.both b o d.length c q r l.length i d l w rfl rfl O O n B
section sort
open Go.Shelf Go.RowKit Go.Lib Go.Sort
variable {P:Program} {ρ:Ren}
theorem C1:SWO (ltOf cmpL) where
 irrefl x:=by unfold ltOf;rw[Lx];rfl
 trans x y z d c:=by
  unfold ltOf at*;simp only[decide_eq_true_eq] at*;exact EB x y z d c
 ntrans x y z d c:=by
  unfold ltOf at*;simp only[decide_eq_false_iff_not] at*;intro h;by_cases a:cmpL y x<0
  ·exact c (EB y x z a h)
  have e:cmpL x y=0:=by
   have:=FL y x;omega
  have:=ET e;subst this;exact c h
theorem XW: ∀x y,ltOf cmpL x y=false->ltOf cmpL y x=false->x=y:=λx y a c=>by
 unfold ltOf at*;simp only[decide_eq_false_iff_not] at*
 have:=FL y x;exact ET O
def dN(w:World)(X:Nat->Prop):Type:={q:Value×List Int // cX w X (.aD (q.2.map kb)) q.1/\q.2.length<=1000000000}
instance (w:World) (X:Nat->Prop):Inhabited (dN w X):=⟨⟨(.slice none 0 0,[]),.fY none 0,aV⟩⟩
def dN.enc{w:World}{X:Nat->Prop}(x:dN w X):Value:=x.1.1
def dN.bY{w:World}{X:Nat->Prop}(x:dN w X):List Int:=x.1.2
def tP{w:World}{X:Nat->Prop}(x y:dN w X):Int:=cmpL x.bY y.bY
theorem dN.one:OneCell (dN.enc (w:=w) (X:=X)):=λx=>x.2.1.iU
theorem Oj:SWO (ltOf (tP (w:=w) (X:=X))) where
 irrefl x:=C1.irrefl x.bY
 trans x y z:=C1.trans x.bY y.bY z.bY
 ntrans x y z:=C1.ntrans x.bY y.bY z.bY
theorem J0{a:Array Value}{t:TypeId}(d:w.heap[b]? =some (.cells a t (0,0)))(f:Array Value->Array Value):mapBlock w b f=w.setRow b (f a):=by rw[mapBlock_congr w b f (λ_=>f a) λc e Hg h=>by rw[d] at h;cases h;rfl];rfl
theorem Gu{m:Nat}{dk:Array (dN w X)}{os:Array Obj}(a:X b):Ext X w (sortWorld dN.enc w b 0 m dk os):=by
 refine⟨rfl,rfl,rfl,?_,λk d c=>?_⟩
 ·show w.heap.size<=((putRow dN.enc (Sort.ahead w m) b 0 dk).heap++os).size;rw[Array.size_append,Go.Sort.size_putRow];exact Nat.le_add_right _ _
 show((putRow dN.enc (Sort.ahead w m) b 0 dk).heap++os)[k]? =_;have h:(putRow dN.enc (Sort.ahead w m) b 0 dk).heap.size=w.heap.size:=by rw[Go.Sort.size_putRow];rfl
 rw[Array.getElem?_append_left O];show((Sort.ahead w m).heap.modify b _)[k]? =_;rw[Array.getElem?_modify,aY λe:b=k=>c (e▸a)];rfl
theorem Mc{d a:Array (dN w X)}(c:PermIn 0 d.size d a)(l:SortedIn (ltOf tP) 0 d.size a):(a.map dN.bY).toList=fm (d.map dN.bY).toList:=by
 refine sorted_unique_holds C1 XW (d.map dN.bY) (a.map dN.bY) ⟨by simpa using c.1,λi m=>?_,?_⟩ λi j e n o=>?_
 ·have r:d.size<=i:=by
   rcases m with h|h
   ·omega
   simpa using h
  have e:=c.1;rw[getElem!_neg _ _ bQ,getElem!_neg _ _ bQ]
 ·have e:=c.2.2;have p:(a.map dN.bY).extract 0 (d.map dN.bY).size=(a.extract 0 d.size).map dN.bY:=aV
  have q:(d.map dN.bY).extract 0 (d.map dN.bY).size=(d.extract 0 d.size).map dN.bY:=aV
  rw[p,q,vD,vD];exact e.map _
 have k':=c.1;have k:j<d.size:=by simpa using o
 have:=l i j e n k;rw[getElem!_pos a j O,getElem!_pos a i O] at this;rw[getElem!_pos _ j bQ,getElem!_pos _ i bQ,Array.getElem_map,Array.getElem_map];exact this
theorem Z6(L:SlLaysF.n6 P ρ)(raw:tr P g)(Hb: ∀args w,(callFunc g args).run P w= .ok (.enter g args) w)(v:ji P (ρ.f 6)){q:Nat}(rows:List (List Int))(cJ:rows.length<=1000000000)(cE: ∀l∈rows,l.length<=1000000000):
  jc P G (ρ.f 6) [aF e q 1 (a6 ae) rows] [ms 0 q 1 (a6 ae) rows,.fn g []] (.bL []) [aF e q 1 (a6 ae) (fm rows)]:=by
 refine⟨v,?_⟩;intro w X p E k5 hr kF fU;have sj:E.length=2:=fU.length;obtain⟨hY,gk,rfl⟩: ∃a b,E=[a,b]:=by
  match E,sj with
  | [a,b],_=>exact⟨a,b,rfl⟩
 have R:=Rel.l2 (P:=P) (nt:=2) k5 hr kF fU (cQ _);obtain⟨M,su,_⟩:=fU;obtain rfl:gk= .func (.func g) #[] #[]:=by
  cases su with
  |fn _ _ E N _=>
   have:E= #[]:=I6 N;rw[this]
 generalize Ht:({tmps:=[hY,Value.func (.func g) #[] #[]].toArray++Array.replicate (2-[hY,Value.func (.func g) #[] #[]].toArray.size) undef,defers:=[]}:Act)=S at R;generalize mu:Ctx.dJ P G w X [aF e q 1 (a6 ae) rows].length p 2=K at R;have sf:K.X=X:=by rw[<-mu];rfl
 generalize k6:Lift.l2 [aF e q 1 (a6 ae) rows] [ms 0 q 1 (a6 ae) rows,.fn g []]=r at R;have z:r.H 0=some (aF e q 1 (a6 ae) rows):=by rw[<-k6];rfl
 have T:r.H=eW [aF e q 1 (a6 ae) rows] 0:=by rw[<-k6];rfl
 have V:own K p r.H=lZ X p (eW [aF e q 1 (a6 ae) rows] 0):=by funext b;rw[T];show(K.X b\/_)=_;rw[sf];rfl
 rw[<-V] at M;have se:aU r.H 0 (some (aF e q 1 (a6 ae) (fm rows)))=eW [aF e q 1 (a6 ae) (fm rows)] 0:=by
  rw[T];funext j
  match j with
  |0=>rfl
  |j+1=>rfl
 have fin: ∀(w':World),Rel K p {r with H:=aU r.H 0 (some (aF e q 1 (a6 ae) (fm rows)))} S w'->
   ∃u,∃_i:Unit,∃β,Ending.returned (.tuple #[])= .returned u/\True/\Left p β [aF e q 1 (a6 ae) rows] [aF e q 1 (a6 ae) (fm rows)] w w' X (.bL []) u:=by
  intro w' b7;subst mu;obtain⟨β,sw⟩:=Dr (out:=[aF e q 1 (a6 ae) (fm rows)]) b7 (cQ _) (.bL [] #[] rfl λi c u bP _=>by simp at bP) rfl (by
   intro id e0 U;refine⟨⟨e0,?_,jx.refl _⟩,?_⟩
   ·show aU r.H 0 _ id=_;rw[se];exact U
   match id with
   |0=>cases U;exact⟨rfl,rfl⟩
   |k+1=>cases U)
  exact⟨_,(),β,rfl,trivial,sw⟩
 have iM:=(R.heap 0 _ z).2.1;have oX:=Ge (R.heap 0 _ z).2 M;have D:r.H 0≠none:=by rw[z];simp
 rcases oX with ⟨rfl,h1,dj⟩|⟨b,cap,o,rfl,dj,A,k7,pa,BT,b7⟩
 ·have pd:rows=[]:=by simpa using h1
  subst pd;refine(AnyF.slices_SortFunc_none (P:=P) (ρ:=ρ) {L with} none 0 _ w).mono ?_;rintro e1 gI ⟨rfl,rfl⟩;refine fin _ ?_
  have:=R.yr 0 _ z;rw[show fm []=[] by simp[fm]];exact this
 have uz:own K p r.H b:= .inr ⟨0,D,.inl ⟨_,dj⟩⟩;have hlen:rows.length<=o.size:=by
  rw[k7];simpa using pa
 have lS: ∀(j:Nat) (W:j<rows.length),cX w (own K p r.H) (.aD (rows[j].map kb)) (o[j]' O):=λj W=>
  b7 j 0 (a6 ae rows[j]) (.aD (rows[j].map kb)) _ (by rw[ey,br W];rfl) rfl (by
   rw[ft,a1 bQ];rw[show j*1+0=j by omega,pQ,hG O])
 obtain⟨F,sc,sd⟩: ∃F:Fin rows.length->dN w (own K p r.H),(∀j,(F j).enc=o[j.1]'(by have:=j.2;omega))/\ ∀j,(F j).bY=rows[j.1]:=
  ⟨λj=>⟨(o[j.1]'(by have:=j.2;omega),rows[j.1]),lS j.1 j.2,cE _ (fC j.2)⟩,λ_=>rfl,λ_=>rfl⟩
 obtain⟨d,cv⟩: ∃d:Array (dN w (own K p r.H)),d=Array.ofFn F:=⟨_,rfl⟩
 have B:d.size=rows.length:=by rw[cv];exact Array.size_ofFn
 have PH: ∀(j:Nat) (W:j<d.size),d[j].enc=o[j]' O/\d[j].bY=rows[j]' O:=λj W=>by
  subst cv;rw[Array.getElem_ofFn];exact⟨sc _,sd _⟩
 have ns:(d.map dN.bY).toList=rows:=by
  refine List.ext_getElem (by simp[B]) λj h1 h2=>?_;rw[Array.getElem_toList,Array.getElem_map];exact(PH j O).2
 have hH:Holds dN.enc w b 0 d:=λj W=>by
  rw[dt,getElem!_pos d j W,(PH j W).1];refine⟨?_,by simp[World.frozen?,A]⟩
  have:j<o.size:=O
  simp[World.cell?,A,this]
 have si:CmpLays1 P g #[] dN.enc tP b 0 d.size w:=CmpReads.lays (λm os dk N x y=>by
  have jH:=Gu (w:=w) (X:=own K p r.H) (b:=b) (m:=m) (dk:=dk) (os:=os) uz;exact(Ou raw (x.2.1.mono jH λ_ _ h=>h) (y.2.1.mono jH λ_ _ h=>h) x.2.2 y.2.2).mono (by
   rintro e1 gI ⟨rfl,rfl⟩;exact⟨rfl,0,rfl⟩))
 have run:=Any.slices_SortFunc L dN.enc dN.one tP Oj g #[] b 0 cap d w Hb si hH (jt.1 A).1 O;rw[B] at run;rw[c5];refine run.mono ?_;rintro e1 gI ⟨rfl,I,n,os,hp,N,la⟩;rw[<-B] at hp N;refine fin _ ?_;have Y:=Mc hp N;rw[ns] at Y;have agp:I.size=rows.length:=by rw[hp.1,B]
 have t:(Sort.ahead w n).heap[b]? =some (.cells o e (0,0)):=A;have s:sortWorld dN.enc w b 0 n I os=grow ((Sort.ahead w n).setRow b (putCells dN.enc 0 I o)) os:=by
  show grow (putRow dN.enc (Sort.ahead w n) b 0 I) os=_;congr 1;exact J0 t _
 have hCs:(putCells dN.enc 0 I o).size=o.size:=by simp[putCells]
 have qp:Rel K p r S (Sort.ahead w n):=R.grow ⟨rfl,rfl,rfl,cQ _,λ_ _ _=>rfl⟩;have fG:=qp.setRow 0 b (.inl ⟨_,dj⟩) o e t (putCells dN.enc 0 I o) hCs (aF e q 1 (a6 ae) (fm rows)) D
  ⟨iM,Or.inr ⟨b,_,dj,setRow_heap _ _ _ _ _ _ t,by
   rw[hCs,c5,<-Y,l5,Array.size_map];omega,λrow s=>by
    obtain⟨l,_,rfl⟩:=eP.1 s;rfl,λi j row x u aJ a2 a3=>by
   rw[ey] at aJ;cases Q:(fm rows)[i]? with
   |none=>rw[Q] at aJ;cases aJ
   |some l=>
    rw[Q] at aJ;simp only[Option.map_some,Option.some.injEq] at aJ;subst aJ
    match j,a2 with
    |0,a2=>
     simp only[List.getElem?_cons_zero,Option.some.injEq] at a2;subst a2;rw[<-Y,pQ,Array.getElem?_map] at Q;cases C:I[i]? with
     |none=>rw[C] at Q;cases Q
     |some y=>
      rw[C] at Q;simp only[Option.map_some,Option.some.injEq] at Q;subst Q;have BR:=(jt.1 C).1;have adi:=(jt.1 C).2;have hu:u=y.enc:=by
       rw[show i*1+0=i by omega] at a3;unfold putCells at a3;rw[Array.getElem?_mapIdx,hG O] at a3;simp only[Option.map_some,Option.some.injEq] at a3;rw[a1 O] at a3;rw[<-a3,Nat.sub_zero,getElem!_pos I i BR,adi]
      subst hu;refine(y.2.1.mono (w':=Sort.ahead w n) ⟨rfl,rfl,rfl,cQ _,λ_ _ _=>rfl⟩ λ_ _ h=>h).mono ⟨rfl,rfl,rfl,aV,λkk _ hx=>setRow_other _ _ _ _ λe0=>hx ?_⟩ λ_ _ h=>h;subst e0;exact uz⟩⟩
 rw[la,s];refine fG.grow ⟨rfl,rfl,rfl,?_,λk hk _=>?_⟩
 ·show _<=(_++os).size;rw[Array.size_append];exact Nat.le_add_right _ _
 show(_++os)[k]? =_;rw[Array.getElem?_append_left hk]
theorem VS(L:SlLaysF.n6 P ρ)(c:tr P g)(k: ∀args w,(callFunc g args).run P w= .ok (.enter g args) w)(a:ji P (ρ.f 6)){x:List (List Int)}{i:Nat}{r:List (List Int)}(h:mD x=some r):
  jc P G (ρ.f 6) [aF e i 1 (a6 ae) x] [ms 0 i 1 (a6 ae) x,.fn g []] (.bL []) [aF e i 1 (a6 ae) r]:=by
 unfold mD at h;split at h
 ·rename_i d;cases h;exact Z6 L c k a x d.1 d.2
 cases h
end sort
end Go.Lift
