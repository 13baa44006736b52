/- Tools. -/
import Derived.Test.YteifkndfpnkalaaGreatELiftIns
import Derived.Test.YteifkndfpnkalaaGreatELiftSq
import Derived.Shelf.SlSortCmp.NoneTotal
set_option linter.unusedVariables false
namespace Go.Lift
open Go Go.Proofs
open Option renaming some -> aa, none -> aj, map_some -> hv
theorem OD: ∀a,cmpL a a=0
 | []=>rfl
 |x::a=>by unfold cmpL;rw[aP O,aP O];exact OD a
theorem HB: ∀c d,cmpL c d<0↔0<cmpL d c
 | [],[]=>by simp[cmpL]
 | [],_::_=>by simp[cmpL]
 |_::_,[]=>by simp[cmpL]
 |x::c,y::d=>by
  unfold cmpL;by_cases a:x<y
  ·rw[aR a,aP O,aR a];omega
  by_cases e:y<x
  ·rw[aP a,aR e,aR e];omega
  rw[aP a,aP e,aP e,aP a];exact HB c d
theorem G1: ∀{a c},cmpL a c=0->a=c
 | [],[],_=>rfl
 | [],_::_,h=>by simp[cmpL] at h
 |_::_,[],h=>by simp[cmpL] at h
 |x::a,y::c,h=>by
  unfold cmpL at h;by_cases d:x<y
  ·rw[aR d] at h;omega
  by_cases e:y<x
  ·rw[aP d,aR e] at h;omega
  rw[aP d,aP e] at h;rw[G1 h,show x=y by omega]
theorem Gr: ∀i k l,cmpL i k<0->cmpL k l<0->cmpL i l<0
 | [],[],_,h,_=>by simp[cmpL] at h
 | [],_::_,[],_,h=>by simp[cmpL] at h
 | [],_::_,_::_,_,_=>by simp[cmpL]
 |_::_,[],_,h,_=>by simp[cmpL] at h
 |_::_,_::_,[],_,h=>by simp[cmpL] at h
 |x::i,y::k,z::l,m,e=>by
  unfold cmpL at m e⊢;by_cases a:x<y
  ·by_cases b:y<z
   ·rw[aR O];omega
   by_cases c:z<y
   ·rw[aP b,aR c] at e;omega
   rw[aR O];omega
  by_cases b:y<x
  ·rw[aP a,aR b] at m;omega
  by_cases c:y<z
  ·rw[aR O];omega
  by_cases d:z<y
  ·rw[aP c,aR d] at e;omega
  rw[aP O,aP O];rw[aP a,aP b] at m;rw[aP c,aP d] at e;exact Gr i k l m e
structure uW (P:Program) (g:FuncId):Prop where
 both: ∀(dc iB n c cS lF m d:Nat) (xs ys:List Int) (w:World),xs.length=n->ys.length=m->n<=9223372036854775807->m<=9223372036854775807->(∀j,j<xs.length->w.cell? ⟨dc,iB+j,aj⟩=aa (.int .i64 (xs.getD j 0)))->
  (∀j,j<ys.length->w.cell? ⟨cS,lF+j,aj⟩=aa (.int .i64 (ys.getD j 0)))->
  Calls P g #[.slice (aa ⟨dc,iB,aj⟩) n c,.slice (aa ⟨cS,lF,aj⟩) m d] w λe w'=>e= .returned (.int .i64 (cmpL xs ys))/\w'=w
 qL: ∀(aN a2:Option Addr) (c m d:Nat) (w:World),m<=9223372036854775807->Calls P g #[.slice aN 0 c,.slice a2 m d] w λe w'=>e= .returned (.int .i64 (if 0<m then-1 else 0))/\w'=w
 Tm: ∀(dc iB n c d:Nat) (a2:Option Addr) (x:Int) (w:World),0<n->n<=9223372036854775807->w.cell? ⟨dc,iB,aj⟩=aa (.int .i64 x)->Calls P g #[.slice (aa ⟨dc,iB,aj⟩) n c,.slice a2 0 d] w λe w'=>e= .returned (.int .i64 1)/\w'=w
variable {w:World}{X:Nat->Prop}{d:List Int}{v:Value}{g:FuncId}{b:Nat}{G:fL}{e:TypeId}
theorem xZ(h:df w X (.bE (d.map k0)) v):
  (d=[]/\ ∃a c,v= .slice a 0 c)\/ ∃(b o c:Nat),0<d.length/\v= .slice (aa ⟨b,o,aj⟩) d.length c/\ ∀j,j<d.length->w.cell? ⟨b,o+j,aj⟩=aa (.int .i64 (d.getD j 0)):=by
 generalize y:d.map k0=z at h;cases h with
 |gX a i=>exact .inl ⟨by simpa using y,a,i,rfl⟩
 |bE _ b l m i f G H A p F q=>
  subst y;cases d with
  |nil=>exact .inl ⟨rfl,_,_,rfl⟩
  |cons x d=>
   have r:m=1:=by have:=p (k0 x) aX;simpa using this.symm
   subst r;refine .inr ⟨b,l,i,aX,aX,λj s=>?_⟩;have B:=F j 0 (by simpa using s) O;have e:(x::d).getD j 0=(x::d)[j]:=by rw[eQ,bp s];rfl
   have C:=q j 0 (k0 (x::d)[j]) (.int .i64 (x::d)[j]) (by rw[eL,bp s];rfl) rfl;rw[show l+j*1+0=l+j by omega] at B;rw[B,e];generalize f j 0=u at C;cases C with
   |int k n=>rfl
theorem Rg{P:Program}(h:uW P g){l:List Int}{u:Value}(z:df w X (.bE (d.map k0)) v)(A:df w X (.bE (l.map k0)) u)(C:d.length<=1000000000)(F:l.length<=1000000000):
  Calls P g #[v,u] w λe k=>e= .returned (.int .i64 (cmpL d l))/\k=w:=by
 rcases xZ z with ⟨rfl,a,c,rfl⟩|⟨b,o,c,m,rfl,n⟩<;>rcases xZ A with ⟨rfl,p,i,rfl⟩|⟨q,r,i,s,rfl,B⟩
 ·exact(h.qL a p c 0 i w O).mono (by rintro e k ⟨rfl,rfl⟩;exact⟨rfl,rfl⟩)
 ·refine(h.qL a (aa ⟨q,r,aj⟩) c l.length i w O).mono ?_;rintro e k ⟨rfl,rfl⟩;cases l with
  |nil=>simp at s
  |cons y l=>exact⟨by rw[aR s];rfl,rfl⟩
 ·refine(h.Tm b o d.length c i p (d.getD 0 0) w m O (n 0 m)).mono ?_;rintro e k ⟨rfl,rfl⟩;cases d with
  |nil=>simp at m
  |cons x d=>exact⟨rfl,rfl⟩
 exact h.both b o d.length c q r l.length i d l w rfl rfl O O n B
section sort
open Go.Shelf Go.RowKit Go.Lib Go.Sort
variable {P:Program}{ρ:Ren}
theorem EF:SWO (ltOf cmpL) where
 irrefl x:=by unfold ltOf;rw[OD];rfl
 trans x y z d c:=by
  unfold ltOf at*;simp only[decide_eq_true_eq] at*;exact Gr x y z d c
 ntrans x y z d c:=by
  unfold ltOf at*;simp only[decide_eq_false_iff_not] at*;intro h;by_cases a:cmpL y x<0
  ·exact c (Gr y x z a h)
  have e:cmpL x y=0:=by
   have:=HB y x;omega
  have:=G1 e;subst this;exact c h
theorem abF: ∀x y,ltOf cmpL x y=false->ltOf cmpL y x=false->x=y:=λx y a c=>by
 unfold ltOf at*;simp only[decide_eq_false_iff_not] at*
 have:=HB y x;exact G1 O
def ec(w:World)(X:Nat->Prop):Type:={q:Value×List Int // df w X (.bE (q.2.map k0)) q.1/\q.2.length<=1000000000}
instance (w:World) (X:Nat->Prop):Inhabited (ec w X):=⟨⟨(.slice aj 0 0,[]),.gX aj 0,aX⟩⟩
def ec.enc{w:World}{X:Nat->Prop}(x:ec w X):Value:=x.1.1
def ec.ls{w:World}{X:Nat->Prop}(x:ec w X):List Int:=x.1.2
def vt{w:World}{X:Nat->Prop}(x y:ec w X):Int:=cmpL x.ls y.ls
theorem ec.one:OneCell (ec.enc (w:=w) (X:=X)):=λx=>x.2.1.j7
theorem Q7:SWO (ltOf (vt (w:=w) (X:=X))) where
 irrefl x:=EF.irrefl x.ls
 trans x y z:=EF.trans x.ls y.ls z.ls
 ntrans x y z:=EF.ntrans x.ls y.ls z.ls
theorem Mc{a:Array Value}{t:TypeId}(d:w.heap[b]? =aa (.cells a t (0,0)))(f:Array Value->Array Value):mapBlock w b f=w.setRow b (f a):=by rw[mapBlock_congr w b f (λ_=>f a) λc e Jm h=>by rw[d] at h;cases h;rfl];rfl
theorem Ih{m:Nat}{dk:Array (ec w X)}{os:Array Obj}(a:X b):Ext X w (sortWorld ec.enc w b 0 m dk os):=by
 refine⟨rfl,rfl,rfl,?_,λk d c=>?_⟩
 ·show w.heap.size<=((putRow ec.enc (Sort.ahead w m) b 0 dk).heap++os).size;rw[Array.size_append,Go.Sort.size_putRow];exact Nat.le_add_right _ _
 show((putRow ec.enc (Sort.ahead w m) b 0 dk).heap++os)[k]? =_;have h:(putRow ec.enc (Sort.ahead w m) b 0 dk).heap.size=w.heap.size:=by rw[Go.Sort.size_putRow];rfl
 rw[Array.getElem?_append_left O];show((Sort.ahead w m).heap.modify b _)[k]? =_;rw[Array.getElem?_modify,aP λe:b=k=>c (e▸a)];rfl
theorem N4{d a:Array (ec w X)}(c:PermIn 0 d.size d a)(l:SortedIn (ltOf vt) 0 d.size a):(a.map ec.ls).toList=fS (d.map ec.ls).toList:=by
 refine sorted_unique_holds EF abF (d.map ec.ls) (a.map ec.ls) ⟨by simpa using c.1,λi m=>?_,?_⟩ λi j e n o=>?_
 ·have r:d.size<=i:=by
   rcases m with h|h
   ·omega
   simpa using h
  have e:=c.1;rw[getElem!_neg _ _ bQ,getElem!_neg _ _ bQ]
 ·have e:=c.2.2;have p:(a.map ec.ls).extract 0 (d.map ec.ls).size=(a.extract 0 d.size).map ec.ls:=aX
  have q:(d.map ec.ls).extract 0 (d.map ec.ls).size=(d.extract 0 d.size).map ec.ls:=aX
  rw[p,q,w3,w3];exact e.map _
 have lX:=c.1;have k:j<d.size:=by simpa using o
 have:=l i j e n k;rw[getElem!_pos a j O,getElem!_pos a i O] at this;rw[getElem!_pos _ j bQ,getElem!_pos _ i bQ,Array.getElem_map,Array.getElem_map];exact this
theorem adb(L:SlLaysF.n6 P ρ)(raw:uW P g)(Jg: ∀args w,(callFunc g args).run P w= .ok (.enter g args) w)(I:j2 P (ρ.f 6)){q:Nat}(rows:List (List Int))(cY:rows.length<=1000000000)(cI: ∀l∈rows,l.length<=1000000000):
  jW P G (ρ.f 6) [aH e q 1 (bd ai) rows] [ms 0 q 1 (bd ai) rows,.fn g []] (.bM []) [aH e q 1 (bd ai) (fS rows)]:=by
 refine⟨I,?_⟩;intro w X p M kV iv lB gI;have tE:M.length=2:=gI.length;obtain⟨iH,ht,rfl⟩: ∃a b,M=[a,b]:=by
  match M,tE with
  | [a,b],_=>exact⟨a,b,rfl⟩
 have Z:=Rel.mT (P:=P) (nt:=2) kV iv lB gI (cR _);obtain⟨N,tK,_⟩:=gI;obtain rfl:ht= .func (.func g) #[] #[]:=by
  cases tK with
  |fn _ _ M S _=>
   have:M= #[]:=KR S;rw[this]
 generalize vN:({tmps:=[iH,Value.func (.func g) #[] #[]].toArray++Array.replicate (2-[iH,Value.func (.func g) #[] #[]].toArray.size) undef,defers:=[]}:Act)=T at Z;generalize mG:Ctx.dR P G w X [aH e q 1 (bd ai) rows].length p 2=K at Z;have tB:K.X=X:=by rw[<-mG];rfl
 generalize j3:Lift.mT [aH e q 1 (bd ai) rows] [ms 0 q 1 (bd ai) rows,.fn g []]=r at Z;have z:r.H 0=aa (aH e q 1 (bd ai) rows):=by rw[<-j3];rfl
 have U:r.H=ft [aH e q 1 (bd ai) rows] 0:=by rw[<-j3];rfl
 have V:own K p r.H=mS X p (ft [aH e q 1 (bd ai) rows] 0):=by funext b;rw[U];show(K.X b\/_)=_;rw[tB];rfl
 rw[<-V] at N;have tA:a8 r.H 0 (aa (aH e q 1 (bd ai) (fS rows)))=ft [aH e q 1 (bd ai) (fS rows)] 0:=by
  rw[U];funext j
  match j with
  |0=>rfl
  |j+1=>rfl
 have fin: ∀(w':World),Rel K p {r with H:=a8 r.H 0 (aa (aH e q 1 (bd ai) (fS rows)))} T w'->
   ∃u,∃_i:Unit,∃β,Ending.returned (.tuple #[])= .returned u/\True/\Left p β [aH e q 1 (bd ai) rows] [aH e q 1 (bd ai) (fS rows)] w w' X (.bM []) u:=by
  intro w' b8;subst mG;obtain⟨β,tM⟩:=E9 (out:=[aH e q 1 (bd ai) (fS rows)]) b8 (cR _) (.bM [] #[] rfl λi c u bT _=>by simp at bT) rfl (by
   intro id e0 t;refine⟨⟨e0,?_,kH.refl _⟩,?_⟩
   ·show a8 r.H 0 _ id=_;rw[tA];exact t
   match id with
   |0=>cases t;exact⟨rfl,rfl⟩
   |k+1=>cases t)
  exact⟨_,(),β,rfl,trivial,tM⟩
 have kq:=(Z.heap 0 _ z).2.1;have pZ:=Cp (Z.heap 0 _ z).2 N;have Q:r.H 0≠aj:=by rw[z];simp
 rcases pZ with ⟨rfl,h1,dI⟩|⟨b,cap,o,rfl,dI,A,pg,qo,DC,b8⟩
 ·have tH:rows=[]:=by simpa using h1
  subst tH;refine(AnyF.slices_SortFunc_none (P:=P) (ρ:=ρ) {L with} aj 0 _ w).mono ?_;rintro e1 hr ⟨rfl,rfl⟩;refine fin _ ?_
  have:=Z.zN 0 _ z;rw[show fS []=[] by simp[fS]];exact this
 have vL:own K p r.H b:= .inr ⟨0,Q,.inl ⟨_,dI⟩⟩;have hlen:rows.length<=o.size:=by
  rw[pg];simpa using qo
 have pk: ∀(j:Nat) (v:j<rows.length),df w (own K p r.H) (.bE (rows[j].map k0)) (o[j]' O):=λj v=>
  b8 j 0 (bd ai rows[j]) (.bE (rows[j].map k0)) _ (by rw[eL,bp v];rfl) rfl (by
   rw[g',aR bQ];rw[show j*1+0=j by omega,ra,iY O])
 obtain⟨F,tx,tz⟩: ∃F:Fin rows.length->ec w (own K p r.H),(∀j,(F j).enc=o[j.1]'(by have:=j.2;omega))/\ ∀j,(F j).ls=rows[j.1]:=
  ⟨λj=>⟨(o[j.1]'(by have:=j.2;omega),rows[j.1]),pk j.1 j.2,cI _ (gC j.2)⟩,λ_=>rfl,λ_=>rfl⟩
 obtain⟨d,cD⟩: ∃d:Array (ec w (own K p r.H)),d=Array.ofFn F:=⟨_,rfl⟩
 have B:d.size=rows.length:=by rw[cD];exact Array.size_ofFn
 have Sw: ∀(j:Nat) (v:j<d.size),d[j].enc=o[j]' O/\d[j].ls=rows[j]' O:=λj v=>by
  subst cD;rw[Array.getElem_ofFn];exact⟨tx _,tz _⟩
 have ot:(d.map ec.ls).toList=rows:=by
  refine List.ext_getElem (by simp[B]) λj h1 h2=>?_;rw[Array.getElem_toList,Array.getElem_map];exact(Sw j O).2
 have hH:Holds ec.enc w b 0 d:=λj v=>by
  rw[dQ,getElem!_pos d j v,(Sw j v).1];refine⟨?_,by simp[World.frozen?,A]⟩
  have:j<o.size:=O
  simp[World.cell?,A,this]
 have tD:CmpLays1 P g #[] ec.enc vt b 0 d.size w:=CmpReads.lays (λm os dk S x y=>by
  have ly:=Ih (w:=w) (X:=own K p r.H) (b:=b) (m:=m) (dk:=dk) (os:=os) vL;exact(Rg raw (x.2.1.mono ly λ_ _ h=>h) (y.2.1.mono ly λ_ _ h=>h) x.2.2 y.2.2).mono (by
   rintro e1 hr ⟨rfl,rfl⟩;exact⟨rfl,0,rfl⟩))
 have run:=Any.slices_SortFunc L ec.enc ec.one vt Q7 g #[] b 0 cap d w Jg tD hH (kB.1 A).1 O;rw[B] at run;rw[dJ];refine run.mono ?_;rintro e1 hr ⟨rfl,R,n,os,hp,S,nx⟩;rw[<-B] at hp S;refine fin _ ?_;have D:=N4 hp S;rw[ot] at D;have akJ:R.size=rows.length:=by rw[hp.1,B]
 have E:(Sort.ahead w n).heap[b]? =aa (.cells o e (0,0)):=A;have s:sortWorld ec.enc w b 0 n R os=grow ((Sort.ahead w n).setRow b (putCells ec.enc 0 R o)) os:=by
  show grow (putRow ec.enc (Sort.ahead w n) b 0 R) os=_;congr 1;exact Mc E _
 have hCs:(putCells ec.enc 0 R o).size=o.size:=by simp[putCells]
 have rI:Rel K p r T (Sort.ahead w n):=Z.grow ⟨rfl,rfl,rfl,cR _,λ_ _ _=>rfl⟩;have gm:=rI.setRow 0 b (.inl ⟨_,dI⟩) o e E (putCells ec.enc 0 R o) hCs (aH e q 1 (bd ai) (fS rows)) Q
  ⟨kq,Or.inr ⟨b,_,dI,setRow_heap _ _ _ _ _ _ E,by
   rw[hCs,dJ,<-D,rb,Array.size_map];omega,λrow s=>by
    obtain⟨l,_,rfl⟩:=eA.1 s;rfl,λi j row x u aN a2 a3=>by
   rw[eL] at aN;cases W:(fS rows)[i]? with
   |none=>rw[W] at aN;cases aN
   |some l=>
    rw[W] at aN;simp only[hv,Option.some.injEq] at aN;subst aN
    match j,a2 with
    |0,a2=>
     simp only[List.getElem?_cons_zero,Option.some.injEq] at a2;subst a2;rw[<-D,ra,Array.getElem?_map] at W;cases C:R[i]? with
     |none=>rw[C] at W;cases W
     |some y=>
      rw[C] at W;simp only[hv,Option.some.injEq] at W;subst W;have DA:=(kB.1 C).1;have ahu:=(kB.1 C).2;have hu:u=y.enc:=by
       rw[show i*1+0=i by omega] at a3;unfold putCells at a3;rw[Array.getElem?_mapIdx,iY O] at a3;simp only[hv,Option.some.injEq] at a3;rw[aR O] at a3;rw[<-a3,Nat.sub_zero,getElem!_pos R i DA,ahu]
      subst hu;refine(y.2.1.mono (w':=Sort.ahead w n) ⟨rfl,rfl,rfl,cR _,λ_ _ _=>rfl⟩ λ_ _ h=>h).mono ⟨rfl,rfl,rfl,aX,λkk _ hx=>setRow_other _ _ _ _ λe0=>hx ?_⟩ λ_ _ h=>h;subst e0;exact vL⟩⟩
 rw[nx,s];refine gm.grow ⟨rfl,rfl,rfl,?_,λk hk _=>?_⟩
 ·show _<=(_++os).size;rw[Array.size_append];exact Nat.le_add_right _ _
 show(_++os)[k]? =_;rw[Array.getElem?_append_left hk]
theorem Y6(L:SlLaysF.n6 P ρ)(c:uW P g)(k: ∀args w,(callFunc g args).run P w= .ok (.enter g args) w)(a:j2 P (ρ.f 6)){x:List (List Int)}{i:Nat}{r:List (List Int)}(h:nE x=aa r):
  jW P G (ρ.f 6) [aH e i 1 (bd ai) x] [ms 0 i 1 (bd ai) x,.fn g []] (.bM []) [aH e i 1 (bd ai) r]:=by
 unfold nE at h;split at h
 ·rename_i d;cases h;exact adb L c k a x d.1 d.2
 cases h
end sort
end Go.Lift
