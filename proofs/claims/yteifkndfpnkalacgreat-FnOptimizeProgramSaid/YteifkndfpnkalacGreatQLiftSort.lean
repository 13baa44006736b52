/- Tools. -/
import Derived.Test.YteifkndfpnkalacGreatQLiftIns
import Derived.Test.YteifkndfpnkalacGreatQLiftSq
import Derived.Shelf.SlSortCmp.NoneTotal
set_option linter.unusedVariables false
namespace Go.Lift
open Go Go.Proofs
open Option renaming some -> aa, none -> aj
theorem Ma: ∀a,cmpL a a=0
 | []=>rfl
 |x::a=>by unfold cmpL;rw[aY O,aY O];exact Ma a
theorem Fy: ∀c d,cmpL c d<0↔0<cmpL d c
 | [],[]=>by simp[cmpL]
 | [],_::_=>by simp[cmpL]
 |_::_,[]=>by simp[cmpL]
 |x::c,y::d=>by
  unfold cmpL;by_cases a:x<y
  ·rw[aX a,aY O,aX a];omega
  by_cases e:y<x
  ·rw[aY a,aX e,aX e];omega
  rw[aY a,aY e,aY e,aY a];exact Fy c d
theorem EU: ∀{a c},cmpL a c=0->a=c
 | [],[],_=>rfl
 | [],_::_,h=>by simp[cmpL] at h
 |_::_,[],h=>by simp[cmpL] at h
 |x::a,y::c,h=>by
  unfold cmpL at h;by_cases d:x<y
  ·rw[aX d] at h;omega
  by_cases e:y<x
  ·rw[aY d,aX e] at h;omega
  rw[aY d,aY e] at h;rw[EU h,show x=y by omega]
theorem Ex: ∀i k l,cmpL i k<0->cmpL k l<0->cmpL i l<0
 | [],[],_,h,_=>by simp[cmpL] at h
 | [],_::_,[],_,h=>by simp[cmpL] at h
 | [],_::_,_::_,_,_=>by simp[cmpL]
 |_::_,[],_,h,_=>by simp[cmpL] at h
 |_::_,_::_,[],_,h=>by simp[cmpL] at h
 |x::i,y::k,z::l,m,e=>by
  unfold cmpL at m e⊢;by_cases a:x<y
  ·by_cases b:y<z
   ·rw[aX O];omega
   by_cases c:z<y
   ·rw[aY b,aX c] at e;omega
   rw[aX O];omega
  by_cases b:y<x
  ·rw[aY a,aX b] at m;omega
  by_cases c:y<z
  ·rw[aX O];omega
  by_cases d:z<y
  ·rw[aY c,aX d] at e;omega
  rw[aY O,aY O];rw[aY a,aY b] at m;rw[aY c,aY d] at e;exact Ex i k l m e
structure tp (P:Program) (g:FuncId):Prop where
 both: ∀(di hQ n c cI hn m d:Nat) (xs ys:List Int) (w:World),xs.length=n->ys.length=m->n<=9223372036854775807->m<=9223372036854775807->(∀j,j<xs.length->w.cell? ⟨di,hQ+j,aj⟩=aa (.int .i64 (xs.getD j 0)))->
  (∀j,j<ys.length->w.cell? ⟨cI,hn+j,aj⟩=aa (.int .i64 (ys.getD j 0)))->
  Calls P g #[.slice (aa ⟨di,hQ,aj⟩) n c,.slice (aa ⟨cI,hn,aj⟩) m d] w λe w'=>e= .returned (.int .i64 (cmpL xs ys))/\w'=w
 pO: ∀(aS a2:Option Addr) (c m d:Nat) (w:World),m<=9223372036854775807->Calls P g #[.slice aS 0 c,.slice a2 m d] w λe w'=>e= .returned (.int .i64 (if 0<m then-1 else 0))/\w'=w
 Q': ∀(di hQ n c d:Nat) (a2:Option Addr) (x:Int) (w:World),0<n->n<=9223372036854775807->w.cell? ⟨di,hQ,aj⟩=aa (.int .i64 x)->Calls P g #[.slice (aa ⟨di,hQ,aj⟩) n c,.slice a2 0 d] w λe w'=>e= .returned (.int .i64 1)/\w'=w
variable {w:World}{X:Nat->Prop}{d:List Int}{v:Value}{g:FuncId}{b:Nat}{G:fq}{e:TypeId}
theorem wF(h:dh w X (.bD (d.map iM)) v):
  (d=[]/\ ∃a c,v= .slice a 0 c)\/ ∃(b o c:Nat),0<d.length/\v= .slice (aa ⟨b,o,aj⟩) d.length c/\ ∀j,j<d.length->w.cell? ⟨b,o+j,aj⟩=aa (.int .i64 (d.getD j 0)):=by
 generalize y:d.map iM=z at h;cases h with
 |gn a i=>exact .inl ⟨by simpa using y,a,i,rfl⟩
 |bD _ b l m i f G H A p F q=>
  subst y;cases d with
  |nil=>exact .inl ⟨rfl,_,_,rfl⟩
  |cons x d=>
   have r:m=1:=by have:=p (iM x) aW;simpa using this.symm
   subst r;refine .inr ⟨b,l,i,aW,aW,λj s=>?_⟩;have B:=F j 0 (by simpa using s) O;have e:(x::d).getD j 0=(x::d)[j]:=by rw[eB,bo s];rfl
   have C:=q j 0 (iM (x::d)[j]) (.int .i64 (x::d)[j]) (by rw[ek,bo s];rfl) rfl;rw[show l+j*1+0=l+j by omega] at B;rw[B,e];generalize f j 0=u at C;cases C with
   |int k n=>rfl
theorem O5{P:Program}(h:tp P g){l:List Int}{u:Value}(z:dh w X (.bD (d.map iM)) v)(A:dh w X (.bD (l.map iM)) u)(C:d.length<=1000000000)(F:l.length<=1000000000):
  Calls P g #[v,u] w λe k=>e= .returned (.int .i64 (cmpL d l))/\k=w:=by
 rcases wF z with ⟨rfl,a,c,rfl⟩|⟨b,o,c,m,rfl,n⟩<;>rcases wF A with ⟨rfl,p,i,rfl⟩|⟨q,r,i,s,rfl,B⟩
 ·exact(h.pO a p c 0 i w O).mono (by rintro e k ⟨rfl,rfl⟩;exact⟨rfl,rfl⟩)
 ·refine(h.pO a (aa ⟨q,r,aj⟩) c l.length i w O).mono ?_;rintro e k ⟨rfl,rfl⟩;cases l with
  |nil=>simp at s
  |cons y l=>exact⟨by rw[aX s];rfl,rfl⟩
 ·refine(h.Q' b o d.length c i p (d.getD 0 0) w m O (n 0 m)).mono ?_;rintro e k ⟨rfl,rfl⟩;cases d with
  |nil=>simp at m
  |cons x d=>exact⟨rfl,rfl⟩
 exact h.both b o d.length c q r l.length i d l w rfl rfl O O n B
section sort
open Go.Shelf Go.RowKit Go.Lib Go.Sort
variable {P:Program}{ρ:Ren}
theorem CY:SWO (ltOf cmpL) where
 irrefl x:=by unfold ltOf;rw[Ma];rfl
 trans x y z d c:=by
  unfold ltOf at*;simp only[decide_eq_true_eq] at*;exact Ex x y z d c
 ntrans x y z d c:=by
  unfold ltOf at*;simp only[decide_eq_false_iff_not] at*;intro h;by_cases a:cmpL y x<0
  ·exact c (Ex y x z a h)
  have e:cmpL x y=0:=by
   have:=Fy y x;omega
  have:=EU e;subst this;exact c h
theorem ZM: ∀x y,ltOf cmpL x y=false->ltOf cmpL y x=false->x=y:=λx y a c=>by
 unfold ltOf at*;simp only[decide_eq_false_iff_not] at*
 have:=Fy y x;exact EU O
def dR(w:World)(X:Nat->Prop):Type:={q:Value×List Int // dh w X (.bD (q.2.map iM)) q.1/\q.2.length<=1000000000}
instance (w:World) (X:Nat->Prop):Inhabited (dR w X):=⟨⟨(.slice aj 0 0,[]),.gn aj 0,aW⟩⟩
def dR.enc{w:World}{X:Nat->Prop}(x:dR w X):Value:=x.1.1
def dR.bH{w:World}{X:Nat->Prop}(x:dR w X):List Int:=x.1.2
def ua{w:World}{X:Nat->Prop}(x y:dR w X):Int:=cmpL x.bH y.bH
theorem dR.one:OneCell (dR.enc (w:=w) (X:=X)):=λx=>x.2.1.jZ
theorem Pe:SWO (ltOf (ua (w:=w) (X:=X))) where
 irrefl x:=CY.irrefl x.bH
 trans x y z:=CY.trans x.bH y.bH z.bH
 ntrans x y z:=CY.ntrans x.bH y.bH z.bH
theorem JQ{a:Array Value}{t:TypeId}(d:w.heap[b]? =aa (.cells a t (0,0)))(f:Array Value->Array Value):mapBlock w b f=w.setRow b (f a):=by rw[mapBlock_congr w b f (λ_=>f a) λc e Hn h=>by rw[d] at h;cases h;rfl];rfl
theorem Gg{m:Nat}{dk:Array (dR w X)}{os:Array Obj}(a:X b):Ext X w (sortWorld dR.enc w b 0 m dk os):=by
 refine⟨rfl,rfl,rfl,?_,λk d c=>?_⟩
 ·show w.heap.size<=((putRow dR.enc (Sort.ahead w m) b 0 dk).heap++os).size;rw[Array.size_append,Go.Sort.size_putRow];exact Nat.le_add_right _ _
 show((putRow dR.enc (Sort.ahead w m) b 0 dk).heap++os)[k]? =_;have h:(putRow dR.enc (Sort.ahead w m) b 0 dk).heap.size=w.heap.size:=by rw[Go.Sort.size_putRow];rfl
 rw[Array.getElem?_append_left O];show((Sort.ahead w m).heap.modify b _)[k]? =_;rw[Array.getElem?_modify,aY λe:b=k=>c (e▸a)];rfl
theorem LC{d a:Array (dR w X)}(c:PermIn 0 d.size d a)(l:SortedIn (ltOf ua) 0 d.size a):(a.map dR.bH).toList=fB (d.map dR.bH).toList:=by
 refine sorted_unique_holds CY ZM (d.map dR.bH) (a.map dR.bH) ⟨by simpa using c.1,λi m=>?_,?_⟩ λi j e n o=>?_
 ·have r:d.size<=i:=by
   rcases m with h|h
   ·omega
   simpa using h
  have e:=c.1;rw[getElem!_neg _ _ bZ,getElem!_neg _ _ bZ]
 ·have e:=c.2.2;have p:(a.map dR.bH).extract 0 (d.map dR.bH).size=(a.extract 0 d.size).map dR.bH:=aW
  have q:(d.map dR.bH).extract 0 (d.map dR.bH).size=(d.extract 0 d.size).map dR.bH:=aW
  rw[p,q,vA,vA];exact e.map _
 have lj:=c.1;have k:j<d.size:=by simpa using o
 have:=l i j e n k;rw[getElem!_pos a j O,getElem!_pos a i O] at this;rw[getElem!_pos _ j bZ,getElem!_pos _ i bZ,Array.getElem_map,Array.getElem_map];exact this
theorem abI(L:SlLaysF.n6 P ρ)(raw:tp P g)(Hh: ∀args w,(callFunc g args).run P w= .ok (.enter g args) w)(I:jy P (ρ.f 6)){q:Nat}(rows:List (List Int))(cG:rows.length<=1000000000)(cC: ∀l∈rows,l.length<=1000000000):
  kF P G (ρ.f 6) [aG e q 1 (be ae) rows] [ms 0 q 1 (be ae) rows,.fn g []] (.bQ []) [aG e q 1 (be ae) (fB rows)]:=by
 refine⟨I,?_⟩;intro w X p M lh iJ xv hc;have sk:M.length=2:=hc.length;obtain⟨k8,hW,rfl⟩: ∃a b,M=[a,b]:=by
  match M,sk with
  | [a,b],_=>exact⟨a,b,rfl⟩
 have Z:=Rel.nD (P:=P) (nt:=2) lh iJ xv hc (cV _);obtain⟨N,xz,_⟩:=hc;obtain rfl:hW= .func (.func g) #[] #[]:=by
  cases xz with
  |fn _ _ M S _=>
   have:M= #[]:=IQ S;rw[this]
 generalize Qh:({tmps:=[k8,Value.func (.func g) #[] #[]].toArray++Array.replicate (2-[k8,Value.func (.func g) #[] #[]].toArray.size) undef,defers:=[]}:Act)=T at Z;generalize np:Ctx.fo P G w X [aG e q 1 (be ae) rows].length p 2=K at Z;have xp:K.X=X:=by rw[<-np];rfl
 generalize om:Lift.nD [aG e q 1 (be ae) rows] [ms 0 q 1 (be ae) rows,.fn g []]=r at Z;have z:r.H 0=aa (aG e q 1 (be ae) rows):=by rw[<-om];rfl
 have U:r.H=fw [aG e q 1 (be ae) rows] 0:=by rw[<-om];rfl
 have V:own K p r.H=mI X p (fw [aG e q 1 (be ae) rows] 0):=by funext b;rw[U];show(K.X b\/_)=_;rw[xp];rfl
 rw[<-V] at N;have xo:bc r.H 0 (aa (aG e q 1 (be ae) (fB rows)))=fw [aG e q 1 (be ae) (fB rows)] 0:=by
  rw[U];funext j
  match j with
  |0=>rfl
  |j+1=>rfl
 have fin: ∀(w':World),Rel K p {r with H:=bc r.H 0 (aa (aG e q 1 (be ae) (fB rows)))} T w'->
   ∃u,∃_i:Unit,∃β,Ending.returned (.tuple #[])= .returned u/\True/\Left p β [aG e q 1 (be ae) rows] [aG e q 1 (be ae) (fB rows)] w w' X (.bQ []) u:=by
  intro w' b3;subst np;obtain⟨β,xD⟩:=DW (out:=[aG e q 1 (be ae) (fB rows)]) b3 (cV _) (.bQ [] #[] rfl λi c u bN _=>by simp at bN) rfl (by
   intro id e0 t;refine⟨⟨e0,?_,kC.refl _⟩,?_⟩
   ·show bc r.H 0 _ id=_;rw[xo];exact t
   match id with
   |0=>cases t;exact⟨rfl,rfl⟩
   |k+1=>cases t)
  exact⟨_,(),β,rfl,trivial,xD⟩
 have kV:=(Z.heap 0 _ z).2.1;have wA:=acm (Z.heap 0 _ z).2 N;have Q:r.H 0≠aj:=by rw[z];simp
 rcases wA with ⟨rfl,h1,hq⟩|⟨b,cap,o,rfl,hq,A,si,pw,BM,b3⟩
 ·have sr:rows=[]:=by simpa using h1
  subst sr;refine(AnyF.slices_SortFunc_none (P:=P) (ρ:=ρ) {L with} aj 0 _ w).mono ?_;rintro e1 ir ⟨rfl,rfl⟩;refine fin _ ?_
  have:=Z.yk 0 _ z;rw[show fB []=[] by simp[fB]];exact this
 have ux:own K p r.H b:= .inr ⟨0,Q,.inl ⟨_,hq⟩⟩;have hlen:rows.length<=o.size:=by
  rw[si];simpa using pw
 have oq: ∀(j:Nat) (v:j<rows.length),dh w (own K p r.H) (.bD (rows[j].map iM)) (o[j]' O):=λj v=>
  b3 j 0 (be ae rows[j]) (.bD (rows[j].map iM)) _ (by rw[ek,bo v];rfl) rfl (by
   rw[hS,aX bZ];rw[show j*1+0=j by omega,p7,jo O])
 obtain⟨F,Hq,Hr⟩: ∃F:Fin rows.length->dR w (own K p r.H),(∀j,(F j).enc=o[j.1]'(by have:=j.2;omega))/\ ∀j,(F j).bH=rows[j.1]:=
  ⟨λj=>⟨(o[j.1]'(by have:=j.2;omega),rows[j.1]),oq j.1 j.2,cC _ (gp j.2)⟩,λ_=>rfl,λ_=>rfl⟩
 obtain⟨d,cM⟩: ∃d:Array (dR w (own K p r.H)),d=Array.ofFn F:=⟨_,rfl⟩
 have B:d.size=rows.length:=by rw[cM];exact Array.size_ofFn
 have Qk: ∀(j:Nat) (v:j<d.size),d[j].enc=o[j]' O/\d[j].bH=rows[j]' O:=λj v=>by
  subst cM;rw[Array.getElem_ofFn];exact⟨Hq _,Hr _⟩
 have BH:(d.map dR.bH).toList=rows:=by
  refine List.ext_getElem (by simp[B]) λj h1 h2=>?_;rw[Array.getElem_toList,Array.getElem_map];exact(Qk j O).2
 have hH:Holds dR.enc w b 0 d:=λj v=>by
  rw[eg,getElem!_pos d j v,(Qk j v).1];refine⟨?_,by simp[World.frozen?,A]⟩
  have:j<o.size:=O
  simp[World.cell?,A,this]
 have sg:CmpLays1 P g #[] dR.enc ua b 0 d.size w:=CmpReads.lays (λm os dk S x y=>by
  have hE:=Gg (w:=w) (X:=own K p r.H) (b:=b) (m:=m) (dk:=dk) (os:=os) ux;exact(O5 raw (x.2.1.mono hE λ_ _ h=>h) (y.2.1.mono hE λ_ _ h=>h) x.2.2 y.2.2).mono (by
   rintro e1 ir ⟨rfl,rfl⟩;exact⟨rfl,0,rfl⟩))
 have run:=Any.slices_SortFunc L dR.enc dR.one ua Pe g #[] b 0 cap d w Hh sg hH (kv.1 A).1 O;rw[B] at run;rw[dz];refine run.mono ?_;rintro e1 ir ⟨rfl,R,n,os,hp,S,qM⟩;rw[<-B] at hp S;refine fin _ ?_;have D:=LC hp S;rw[BH] at D;have aip:R.size=rows.length:=by rw[hp.1,B]
 have E:(Sort.ahead w n).heap[b]? =aa (.cells o e (0,0)):=A;have s:sortWorld dR.enc w b 0 n R os=grow ((Sort.ahead w n).setRow b (putCells dR.enc 0 R o)) os:=by
  show grow (putRow dR.enc (Sort.ahead w n) b 0 R) os=_;congr 1;exact JQ E _
 have hCs:(putCells dR.enc 0 R o).size=o.size:=by simp[putCells]
 have lR:Rel K p r T (Sort.ahead w n):=Z.grow ⟨rfl,rfl,rfl,cV _,λ_ _ _=>rfl⟩;have dV:=lR.setRow 0 b (.inl ⟨_,hq⟩) o e E (putCells dR.enc 0 R o) hCs (aG e q 1 (be ae) (fB rows)) Q
  ⟨kV,Or.inr ⟨b,_,hq,setRow_heap _ _ _ _ _ _ E,by
   rw[hCs,dz,<-D,p9,Array.size_map];omega,λrow s=>by
    obtain⟨l,_,rfl⟩:=eo.1 s;rfl,λi j row x u aS a2 a3=>by
   rw[ek] at aS;cases W:(fB rows)[i]? with
   |none=>rw[W] at aS;cases aS
   |some l=>
    rw[W] at aS;simp only[Option.map_some,Option.some.injEq] at aS;subst aS
    match j,a2 with
    |0,a2=>
     simp only[List.getElem?_cons_zero,Option.some.injEq] at a2;subst a2;rw[<-D,p7,Array.getElem?_map] at W;cases C:R[i]? with
     |none=>rw[C] at W;cases W
     |some y=>
      rw[C] at W;simp only[Option.map_some,Option.some.injEq] at W;subst W;have BJ:=(kv.1 C).1;have afg:=(kv.1 C).2;have hu:u=y.enc:=by
       rw[show i*1+0=i by omega] at a3;unfold putCells at a3;rw[Array.getElem?_mapIdx,jo O] at a3;simp only[Option.map_some,Option.some.injEq] at a3;rw[aX O] at a3;rw[<-a3,Nat.sub_zero,getElem!_pos R i BJ,afg]
      subst hu;refine(y.2.1.mono (w':=Sort.ahead w n) ⟨rfl,rfl,rfl,cV _,λ_ _ _=>rfl⟩ λ_ _ h=>h).mono ⟨rfl,rfl,rfl,aW,λkk _ hx=>setRow_other _ _ _ _ λe0=>hx ?_⟩ λ_ _ h=>h;subst e0;exact ux⟩⟩
 rw[qM,s];refine dV.grow ⟨rfl,rfl,rfl,?_,λk hk _=>?_⟩
 ·show _<=(_++os).size;rw[Array.size_append];exact Nat.le_add_right _ _
 show(_++os)[k]? =_;rw[Array.getElem?_append_left hk]
theorem Wn(L:SlLaysF.n6 P ρ)(c:tp P g)(i: ∀args w,(callFunc g args).run P w= .ok (.enter g args) w)(a:jy P (ρ.f 6)){x:List (List Int)}{n:Nat}{r:List (List Int)}(h:mE x=aa r):
  kF P G (ρ.f 6) [aG e n 1 (be ae) x] [ms 0 n 1 (be ae) x,.fn g []] (.bQ []) [aG e n 1 (be ae) r]:=by
 unfold mE at h;split at h
 ·rename_i d;cases h;exact abI L c i a x d.1 d.2
 cases h
end sort
end Go.Lift
